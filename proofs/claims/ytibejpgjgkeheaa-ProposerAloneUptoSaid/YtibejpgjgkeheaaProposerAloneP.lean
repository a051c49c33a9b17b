/- The row 'ProposerAlone', second form: the walk's contract, carried to the statement. -/
import Derived.Test.YtibejpgjgkeheaaPmG
import Derived.Test.YtibejpgjgkeheaaRows
set_option linter.unusedVariables false
namespace Go.Proofs.Ytibejpgjgkeheaa.proposerAloneUpto
open Go.ChangeShapes Go.WideShapes Go.ChangeAt Go.RowKit Go.SL

theorem own : ownKnob Try.prog.godebug = none := by kernel_rfl
theorem laid : laidOutB Try.prog = true := by kernel_rfl
theorem bytes27 : Try.prog.bytesOf 27 = 72 := by kernel_rfl
set_option maxRecDepth 100000 in
theorem contract (H : Type) (enc : TypeId × Value → H) (W : World) (base0 : Nat) (args : Array Value) (ds gs : List (DataW H)) (before : List MemPlace)
    (hval : ∀ (j : Nat) t v, Try.f10.params[j]? = some t → args[j]? = some v → Value.okWide Try.prog W .any base0 t v)
    (hW : DataW.Whole enc Try.prog Try.f10.params.toList Rows.proposerAloneSpec.vars false W args.toList ds gs before)
    (hk : Rows.uptoSmall H (ds ++ gs) = true)
    (hs : (DataW.weightsEach Try.prog (Try.f10.params.toList ++ Rows.proposerAloneSpec.plain.varTypes Try.prog) (ds ++ gs)).all (· ≤ reachBytes) = true) :
    Calls Try.prog 10 args W fun e W' => ∃ v, e = .returned v ∧ Rows.proposerAloneSpec.post enc Try.prog Try.f10 false true false false W args v W' := by
  have hW' := hW
  obtain ⟨p, q, hA0, hV, rfl, hfz, hnd⟩ := hW
  have hA : DataW.TrodAll enc Try.prog W 0 (fun _ => true) true Try.f10.params.toList args.toList ds p := hA0
  rw [Try.params10] at hA hval hs
  obtain ⟨v0, vs0, d0, ds0, p0, q0, hargs, rfl, rfl, h0, r0⟩ := trodAll_cons hA
  obtain ⟨v1, vs1, d1, ds1, p1, q1, rfl, rfl, rfl, h1, r1⟩ := trodAll_cons r0
  obtain ⟨rfl, rfl, rfl⟩ := trodAll_nil r1
  obtain rfl : args = #[v0, v1] := by cases args; simp_all
  obtain ⟨rfl, rfl⟩ := trodVars_none hV
  have hB := up_bound hk
  simp only [List.append_nil, List.map_cons, List.map_nil, List.sum_cons, List.sum_nil] at hB
  have w0 : ∀ n ∈ d0.weights Try.prog 79, n ≤ reachBytes := fun n hn => by simpa using List.all_eq_true.1 hs n (DataW.weights_mem_each (j := 0) rfl rfl n hn)
  obtain ⟨A0, c0, xs0, rfl, s0, ⟨l0, e0⟩, m0⟩ := arg_slice Try.underlying79 (reads_slice Try.underlying79 (by kernel_rfl) (by decide) (by rw [bytes27]; decide) (reads_entry)) (hval 0 79 v0 rfl rfl) h0 w0
  rw [bytes27] at l0
  have u0 := m0 upB
  obtain ⟨x1, rfl, i1⟩ := arg_int Try.underlying3 (hval 1 3 v1 rfl rfl) h1
  have r1 := i64In i1
  have hlim : (xs0.map μEntry).sum ≤ 1048576 := (by omega)
  have hlen := ents_len hlim
  have hsep : Sep (Go.SL.base (heapOf W) :: sl entryR A0 c0 xs0 :: []) (heapOf W) Mem.emp := sep_cons (Mem.le_refl _) (sep_cons s0 sep_nil)
  refine (law_calls hsep (proposerAlone_walk x1 i1 slk (ents_small hlim) (by omega))).mono fun e W' ⟨he, hb⟩ => ?_
  subst he
  exact ⟨_, rfl, post_true hW' hb laid (by kernel_rfl) rfl Try.underlying4 rfl rfl⟩

set_option maxRecDepth 100000 in
theorem lifted (os : Os) (started : os.Started) (H : Type) (enc : TypeId × Value → H) (F : Stop.Interp) :
    ReturnsInHanded {} Try.checked os 10 .any ((Rows.OpenSpec.upto Rows.proposerAloneSpec).pre6 enc Try.prog Try.f10 Rows.proposerAloneUptoRow.domain false) (((Rows.OpenSpec.upto Rows.proposerAloneSpec).at F).post enc Try.prog Try.f10 false true false false) := by
  refine returnsInHanded_of_cond_sized (C := Try.checked) (s := Rows.OpenSpec.upto Rows.proposerAloneSpec) (k := Rows.uptoSmall) rfl own started (by kernel_rfl) Try.func10
    (OpenSpec.witness (enc := enc) (C := Try.checked) (s := Rows.OpenSpec.upto Rows.proposerAloneSpec) (k := Rows.uptoSmall) rfl false ⟨#[], #[.slice none 0 0, .int .i64 0], []⟩ 8 (by kernel_rfl) (by kernel_rfl) (by kernel_rfl)
      (x := ([.nil, .lit (.int .i64 0)], [], [])) (by kernel_rfl) rfl (by kernel_rfl)) ?_
  intro W base args ds gs before hval hW _ hk hs _
  exact contract H enc W base args ds gs before hval hW hk hs

theorem proved : Rows.ProposerAloneUptoSaid :=
  OpenClaim.holds_of_cond 10 Try.f10 rfl rfl rfl rfl rfl rfl rfl ⟨rfl, rfl, rfl, rfl, rfl⟩ rfl rfl rfl rfl rfl (by kernel_rfl) Try.func10 (by kernel_rfl)
    (of_decide_eq_true (by kernel_rfl)) (by unfold Func.isWrapper; first | (rw [if_pos (by decide +kernel)]; kernel_rfl) | (rw [if_neg (by decide +kernel)]; exact ⟨rfl, rfl⟩))
    (fun os started H enc _ F => lifted os started H enc F)
end Go.Proofs.Ytibejpgjgkeheaa.proposerAloneUpto
