/- The row 'ProposerAgrees', second form: the walk's contract, carried to the statement. -/
import Derived.Test.YtibejpgjgkeheaaPgG
import Derived.Test.YtibejpgjgkeheaaRows
set_option linter.unusedVariables false
namespace Go.SL
open Go Go.Proofs
theorem moves_small {l : List MoveD} (h : (l.map μMove).sum ≤ 1048576) : ∀ v ∈ l, cSeal v.en.order ≤ 140737488355000 := fun v hv => by
  have h1 := Nat.le_trans (msum_mem (μ := μMove) hv) h
  have h2 := cSeal_μ v.en.order
  unfold μMove μEntry at h1
  omega
theorem moves_len {l : List MoveD} (h : (l.map μMove).sum ≤ 1048576) : l.length ≤ 1048576 := by
  have := sum_ge (μ := μMove) (fun x => by unfold μMove; omega) l
  omega
end Go.SL
namespace Go.Proofs.Ytibejpgjgkeheaa.proposerAgreesUpto
open Go.ChangeShapes Go.WideShapes Go.ChangeAt Go.RowKit Go.SL

theorem own : ownKnob Try.prog.godebug = none := by kernel_rfl
theorem laid : laidOutB Try.prog = true := by kernel_rfl
theorem bytes95 : Try.prog.bytesOf 95 = 96 := by kernel_rfl
set_option maxRecDepth 100000 in
theorem contract (H : Type) (enc : TypeId × Value → H) (W : World) (base0 : Nat) (args : Array Value) (ds gs : List (DataW H)) (before : List MemPlace)
    (hval : ∀ (j : Nat) t v, Try.f13.params[j]? = some t → args[j]? = some v → Value.okWide Try.prog W .any base0 t v)
    (hW : DataW.Whole enc Try.prog Try.f13.params.toList Rows.proposerAgreesSpec.vars false W args.toList ds gs before)
    (hk : Rows.uptoSmall H (ds ++ gs) = true)
    (hs : (DataW.weightsEach Try.prog (Try.f13.params.toList ++ Rows.proposerAgreesSpec.plain.varTypes Try.prog) (ds ++ gs)).all (· ≤ reachBytes) = true) :
    Calls Try.prog 13 args W fun e W' => ∃ v, e = .returned v ∧ Rows.proposerAgreesSpec.post enc Try.prog Try.f13 false true false false W args v W' := by
  have hW' := hW
  obtain ⟨p, q, hA0, hV, rfl, hfz, hnd⟩ := hW
  have hA : DataW.TrodAll enc Try.prog W 0 (fun _ => true) true Try.f13.params.toList args.toList ds p := hA0
  rw [Try.params13] at hA hval hs
  obtain ⟨v0, vs0, d0, ds0, p0, q0, hargs, rfl, rfl, h0, r0⟩ := trodAll_cons hA
  obtain ⟨v1, vs1, d1, ds1, p1, q1, rfl, rfl, rfl, h1, r1⟩ := trodAll_cons r0
  obtain ⟨rfl, rfl, rfl⟩ := trodAll_nil r1
  obtain rfl : args = #[v0, v1] := by cases args; simp_all
  obtain ⟨rfl, rfl⟩ := trodVars_none hV
  have hB := up_bound hk
  simp only [List.append_nil, List.map_cons, List.map_nil, List.sum_cons, List.sum_nil] at hB
  obtain ⟨x0, rfl, i0⟩ := arg_int Try.underlying3 (hval 0 3 v0 rfl rfl) h0
  have r0 := i64In i0
  have w1 : ∀ n ∈ d1.weights Try.prog 90, n ≤ reachBytes := fun n hn => by simpa using List.all_eq_true.1 hs n (DataW.weights_mem_each (j := 1) rfl rfl n hn)
  obtain ⟨A1, c1, xs1, rfl, s1, ⟨l1, e1⟩, m1⟩ := arg_slice Try.underlying90 (reads_slice Try.underlying90 (by kernel_rfl) (by decide) (by rw [bytes95]; decide) (reads_move)) (hval 1 90 v1 rfl rfl) h1 w1
  rw [bytes95] at l1
  have u1 := m1 upB
  have hlim : (xs1.map μMove).sum ≤ 1048576 := (by omega)
  have hlen := moves_len hlim
  have hsep : Sep (Go.SL.base (heapOf W) :: sl moveR A1 c1 xs1 :: []) (heapOf W) Mem.emp := sep_cons (Mem.le_refl _) (sep_cons s1 sep_nil)
  refine (law_calls hsep (proposerAgrees_walk x0 i0 slk (moves_small hlim) (by omega))).mono fun e W' ⟨he, hb⟩ => ?_
  subst he
  exact ⟨_, rfl, post_true hW' hb laid (by kernel_rfl) rfl Try.underlying4 rfl rfl⟩

set_option maxRecDepth 100000 in
theorem lifted (os : Os) (started : os.Started) (H : Type) (enc : TypeId × Value → H) (F : Stop.Interp) :
    ReturnsInHanded {} Try.checked os 13 .any ((Rows.OpenSpec.upto Rows.proposerAgreesSpec).pre6 enc Try.prog Try.f13 Rows.proposerAgreesUptoRow.domain false) (((Rows.OpenSpec.upto Rows.proposerAgreesSpec).at F).post enc Try.prog Try.f13 false true false false) := by
  refine returnsInHanded_of_cond_sized (C := Try.checked) (s := Rows.OpenSpec.upto Rows.proposerAgreesSpec) (k := Rows.uptoSmall) rfl own started (by kernel_rfl) Try.func13
    (OpenSpec.witness (enc := enc) (C := Try.checked) (s := Rows.OpenSpec.upto Rows.proposerAgreesSpec) (k := Rows.uptoSmall) rfl false ⟨#[], #[.int .i64 0, .slice none 0 0], []⟩ 8 (by kernel_rfl) (by kernel_rfl) (by kernel_rfl)
      (x := ([.lit (.int .i64 0), .nil], [], [])) (by kernel_rfl) rfl (by kernel_rfl)) ?_
  intro W base args ds gs before hval hW _ hk hs _
  exact contract H enc W base args ds gs before hval hW hk hs

theorem proved : Rows.ProposerAgreesUptoSaid :=
  OpenClaim.holds_of_cond 13 Try.f13 rfl rfl rfl rfl rfl rfl rfl ⟨rfl, rfl, rfl, rfl, rfl⟩ rfl rfl rfl rfl rfl (by kernel_rfl) Try.func13 (by kernel_rfl)
    (of_decide_eq_true (by kernel_rfl)) (by unfold Func.isWrapper; first | (rw [if_pos (by decide +kernel)]; kernel_rfl) | (rw [if_neg (by decide +kernel)]; exact ⟨rfl, rfl⟩))
    (fun os started H enc _ F => lifted os started H enc F)
end Go.Proofs.Ytibejpgjgkeheaa.proposerAgreesUpto
