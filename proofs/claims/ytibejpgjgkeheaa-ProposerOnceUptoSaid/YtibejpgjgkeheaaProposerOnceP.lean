/- The row 'ProposerOnce', second form: the walk's contract, carried to the statement. -/
import Derived.Test.YtibejpgjgkeheaaPmG
import Derived.Test.YtibejpgjgkeheaaRows
set_option linter.unusedVariables false
namespace Go.SL
open Go Go.Proofs
theorem ops_small {l : List OpD17} (h : (l.map μOp17).sum ≤ 1048576) : ∀ o ∈ l, cMsg o.msg ≤ 140737488355328 ∧ cSeal o.en.order ≤ 140737488355000 := fun o ho => by
  have h1 := Nat.le_trans (msum_mem (μ := μOp17) ho) h
  have h2 := cSeal_μ o.en.order
  unfold μOp17 at h1
  refine ⟨cMsg_small (n := 1048576) (by omega) (Nat.le_refl _), ?_⟩
  unfold μEntry at h1
  omega
theorem ops_len {l : List OpD17} (h : (l.map μOp17).sum ≤ 1048576) : l.length ≤ 1048576 := by
  have := sum_ge (μ := μOp17) (fun x => by unfold μOp17; omega) l
  omega
end Go.SL
namespace Go.Proofs.Ytibejpgjgkeheaa.proposerOnceUpto
open Go.ChangeShapes Go.WideShapes Go.ChangeAt Go.RowKit Go.SL

theorem own : ownKnob Try.prog.godebug = none := by kernel_rfl
theorem laid : laidOutB Try.prog = true := by kernel_rfl
theorem bytes85 : Try.prog.bytesOf 85 = 304 := by kernel_rfl
set_option maxRecDepth 100000 in
theorem contract (H : Type) (enc : TypeId × Value → H) (W : World) (base0 : Nat) (args : Array Value) (ds gs : List (DataW H)) (before : List MemPlace)
    (hval : ∀ (j : Nat) t v, Try.f11.params[j]? = some t → args[j]? = some v → Value.okWide Try.prog W .any base0 t v)
    (hW : DataW.Whole enc Try.prog Try.f11.params.toList Rows.proposerOnceSpec.vars false W args.toList ds gs before)
    (hk : Rows.uptoSmall H (ds ++ gs) = true)
    (hs : (DataW.weightsEach Try.prog (Try.f11.params.toList ++ Rows.proposerOnceSpec.plain.varTypes Try.prog) (ds ++ gs)).all (· ≤ reachBytes) = true) :
    Calls Try.prog 11 args W fun e W' => ∃ v, e = .returned v ∧ Rows.proposerOnceSpec.post enc Try.prog Try.f11 false true false false W args v W' := by
  have hW' := hW
  obtain ⟨p, q, hA0, hV, rfl, hfz, hnd⟩ := hW
  have hA : DataW.TrodAll enc Try.prog W 0 (fun _ => true) true Try.f11.params.toList args.toList ds p := hA0
  rw [Try.params11] at hA hval hs
  obtain ⟨v0, vs0, d0, ds0, p0, q0, hargs, rfl, rfl, h0, r0⟩ := trodAll_cons hA
  obtain ⟨v1, vs1, d1, ds1, p1, q1, rfl, rfl, rfl, h1, r1⟩ := trodAll_cons r0
  obtain ⟨v2, vs2, d2, ds2, p2, q2, rfl, rfl, rfl, h2, r2⟩ := trodAll_cons r1
  obtain ⟨rfl, rfl, rfl⟩ := trodAll_nil r2
  obtain rfl : args = #[v0, v1, v2] := by cases args; simp_all
  obtain ⟨rfl, rfl⟩ := trodVars_none hV
  have hB := up_bound hk
  simp only [List.append_nil, List.map_cons, List.map_nil, List.sum_cons, List.sum_nil] at hB
  obtain ⟨x0, rfl, i0⟩ := arg_int Try.underlying3 (hval 0 3 v0 rfl rfl) h0
  have r0 := i64In i0
  obtain ⟨x1, rfl, i1⟩ := arg_int Try.underlying3 (hval 1 3 v1 rfl rfl) h1
  have r1 := i64In i1
  have w2 : ∀ n ∈ d2.weights Try.prog 83, n ≤ reachBytes := fun n hn => by simpa using List.all_eq_true.1 hs n (DataW.weights_mem_each (j := 2) rfl rfl n hn)
  obtain ⟨A2, c2, xs2, rfl, s2, ⟨l2, e2⟩, m2⟩ := arg_slice Try.underlying83 (reads_slice Try.underlying83 (by kernel_rfl) (by decide) (by rw [bytes85]; decide) (reads_op)) (hval 2 83 v2 rfl rfl) h2 w2
  rw [bytes85] at l2
  have u2 := m2 upB
  have hlim : (xs2.map μOp17).sum ≤ 1048576 := (by omega)
  have hlen := ops_len hlim
  have hsep : Sep (Go.SL.base (heapOf W) :: sl opR A2 c2 xs2 :: []) (heapOf W) Mem.emp := sep_cons (Mem.le_refl _) (sep_cons s2 sep_nil)
  refine (law_calls hsep (proposerOnce_walk x0 x1 slk (ops_small hlim) (by omega))).mono fun e W' ⟨he, hb⟩ => ?_
  subst he
  exact ⟨_, rfl, post_true hW' hb laid (by kernel_rfl) rfl Try.underlying4 rfl rfl⟩

set_option maxRecDepth 100000 in
theorem lifted (os : Os) (started : os.Started) (H : Type) (enc : TypeId × Value → H) (F : Stop.Interp) :
    ReturnsInHanded {} Try.checked os 11 .any ((Rows.OpenSpec.upto Rows.proposerOnceSpec).pre6 enc Try.prog Try.f11 Rows.proposerOnceUptoRow.domain false) (((Rows.OpenSpec.upto Rows.proposerOnceSpec).at F).post enc Try.prog Try.f11 false true false false) := by
  refine returnsInHanded_of_cond_sized (C := Try.checked) (s := Rows.OpenSpec.upto Rows.proposerOnceSpec) (k := Rows.uptoSmall) rfl own started (by kernel_rfl) Try.func11
    (OpenSpec.witness (enc := enc) (C := Try.checked) (s := Rows.OpenSpec.upto Rows.proposerOnceSpec) (k := Rows.uptoSmall) rfl false ⟨#[], #[.int .i64 0, .int .i64 0, .slice none 0 0], []⟩ 8 (by kernel_rfl) (by kernel_rfl) (by kernel_rfl)
      (x := ([.lit (.int .i64 0), .lit (.int .i64 0), .nil], [], [])) (by kernel_rfl) rfl (by kernel_rfl)) ?_
  intro W base args ds gs before hval hW _ hk hs _
  exact contract H enc W base args ds gs before hval hW hk hs

theorem proved : Rows.ProposerOnceUptoSaid :=
  OpenClaim.holds_of_cond 11 Try.f11 rfl rfl rfl rfl rfl rfl rfl ⟨rfl, rfl, rfl, rfl, rfl⟩ rfl rfl rfl rfl rfl (by kernel_rfl) Try.func11 (by kernel_rfl)
    (of_decide_eq_true (by kernel_rfl)) (by unfold Func.isWrapper; first | (rw [if_pos (by decide +kernel)]; kernel_rfl) | (rw [if_neg (by decide +kernel)]; exact ⟨rfl, rfl⟩))
    (fun os started H enc _ F => lifted os started H enc F)
end Go.Proofs.Ytibejpgjgkeheaa.proposerOnceUpto
