/- The row 'CutLate': the walk's contract, carried to the statement. -/
import Derived.Test.YtajdgepnmbonaaaKfD
import Derived.Test.YtajdgepnmbonaaaRows
import Derived.WalkKit
set_option linter.unusedVariables false
namespace Go.Proofs.Ytajdgepnmbonaaa.cutLate
open Go.ChangeShapes Go.WideShapes Go.ChangeAt Go.RowKit Go.SL

theorem own : ownKnob Try.prog.godebug = none := by kernel_rfl
theorem laid : laidOutB Try.prog = true := by kernel_rfl
theorem bytes29 : Try.prog.bytesOf 29 = 96 := by kernel_rfl
theorem bytes53 : Try.prog.bytesOf 53 = 64 := by kernel_rfl
set_option maxRecDepth 100000 in
theorem contract (H : Type) (enc : TypeId × Value → H) (W : World) (base0 : Nat) (args : Array Value) (ds gs : List (DataW H)) (before : List MemPlace)
    (hval : ∀ (j : Nat) t v, Try.f8.params[j]? = some t → args[j]? = some v → Value.okWide Try.prog W .any base0 t v)
    (hW : DataW.Whole enc Try.prog Try.f8.params.toList Rows.cutLateSpec.vars false W args.toList ds gs before)
    (hs : (DataW.weightsEach Try.prog (Try.f8.params.toList ++ Rows.cutLateSpec.plain.varTypes Try.prog) (ds ++ gs)).all (· ≤ reachBytes) = true) :
    Calls Try.prog 8 args W fun e W' => ∃ v, e = .returned v ∧ Rows.cutLateSpec.post enc Try.prog Try.f8 false true false false W args v W' := by
  have hW' := hW
  obtain ⟨p, q, hA0, hV, rfl, hfz, hnd⟩ := hW
  have hA : DataW.TrodAll enc Try.prog W 0 (fun _ => true) true Try.f8.params.toList args.toList ds p := hA0
  rw [Try.params8] at hA hval hs
  obtain ⟨v0, vs0, d0, ds0, p0, q0, hargs, rfl, rfl, h0, r0⟩ := trodAll_cons hA
  obtain ⟨v1, vs1, d1, ds1, p1, q1, rfl, rfl, rfl, h1, r1⟩ := trodAll_cons r0
  obtain ⟨v2, vs2, d2, ds2, p2, q2, rfl, rfl, rfl, h2, r2⟩ := trodAll_cons r1
  obtain ⟨v3, vs3, d3, ds3, p3, q3, rfl, rfl, rfl, h3, r3⟩ := trodAll_cons r2
  obtain ⟨v4, vs4, d4, ds4, p4, q4, rfl, rfl, rfl, h4, r4⟩ := trodAll_cons r3
  obtain ⟨rfl, rfl, rfl⟩ := trodAll_nil r4
  obtain rfl : args = #[v0, v1, v2, v3, v4] := by cases args; simp_all
  obtain ⟨rfl, rfl⟩ := trodVars_none hV
  have w0 : ∀ n ∈ d0.weights Try.prog 22, n ≤ reachBytes := fun n hn => by simpa using List.all_eq_true.1 hs n (DataW.weights_mem_each (j := 0) rfl rfl n hn)
  obtain ⟨A0, c0, xs0, rfl, s0, ⟨l0, e0⟩, m0⟩ := arg_slice Try.underlying22 (reads_slice Try.underlying22 (by kernel_rfl) (by decide) (by rw [bytes29]; decide) (reads_event)) (hval 0 22 v0 rfl rfl) h0 w0
  rw [bytes29] at l0
  have w1 : ∀ n ∈ d1.weights Try.prog 43, n ≤ reachBytes := fun n hn => by simpa using List.all_eq_true.1 hs n (DataW.weights_mem_each (j := 1) rfl rfl n hn)
  obtain ⟨A1, c1, xs1, rfl, s1, ⟨l1, e1⟩, m1⟩ := arg_slice Try.underlying43 (reads_slice Try.underlying43 (by kernel_rfl) (by decide) (by rw [bytes53]; decide) (reads_seal)) (hval 1 43 v1 rfl rfl) h1 w1
  rw [bytes53] at l1
  have w2 : ∀ n ∈ d2.weights Try.prog 9, n ≤ reachBytes := fun n hn => by simpa using List.all_eq_true.1 hs n (DataW.weights_mem_each (j := 2) rfl rfl n hn)
  obtain ⟨x2, rfl, l2, m2⟩ := arg_str Try.underlying9 (hval 2 9 v2 rfl rfl) h2 w2
  have w3 : ∀ n ∈ d3.weights Try.prog 9, n ≤ reachBytes := fun n hn => by simpa using List.all_eq_true.1 hs n (DataW.weights_mem_each (j := 3) rfl rfl n hn)
  obtain ⟨x3, rfl, l3, m3⟩ := arg_str Try.underlying9 (hval 3 9 v3 rfl rfl) h3 w3
  obtain ⟨x4, rfl, i4⟩ := arg_int Try.underlying3 (hval 4 3 v4 rfl rfl) h4
  have r4 := i64In i4
  have hsep : Sep (Go.SL.base (heapOf W) :: sl eventR A0 c0 xs0 :: sl sealR A1 c1 xs1 :: []) (heapOf W) Mem.emp := sep_cons (Mem.le_refl _) (sep_cons s0 (sep_cons s1 sep_nil))
  refine (law_calls hsep (cutLate_walk x2 x3 x4 slk slk (by omega) (by omega) (by simp only [maxEl]; omega) (by simp only [maxEl]; omega))).mono fun e W' ⟨he, hb⟩ => ?_
  subst he
  exact ⟨_, rfl, post_true hW' hb laid (by kernel_rfl) rfl Try.underlying4 rfl rfl⟩

set_option maxRecDepth 100000 in
theorem lifted (os : Os) (started : os.Started) (H : Type) (enc : TypeId × Value → H) :
    ReturnsInHanded {} Try.checked os 8 .any (Rows.cutLateSpec.pre6 enc Try.prog Try.f8 Rows.cutLateRow.domain false) (Rows.cutLateSpec.post enc Try.prog Try.f8 false true false false) := by
  refine returnsInHanded_of_change_sized own started (by kernel_rfl) Try.func8
    (ChangeSpec.witness6 (enc := enc) (C := Try.checked) (s := Rows.cutLateSpec) false ⟨#[], #[.slice none 0 0, .slice none 0 0, .string ⟨#[]⟩, .string ⟨#[]⟩, .int .i64 0], []⟩ 8 (by kernel_rfl) (by kernel_rfl) (by kernel_rfl) (by kernel_rfl) (by kernel_rfl)) ?_
  intro W base args ds gs before hval hW _ hs _
  exact contract H enc W base args ds gs before hval hW hs

theorem proved : Rows.CutLateSaid :=
  OpenClaim.holds_of_wide 8 Try.f8 rfl rfl rfl rfl rfl rfl rfl ⟨rfl, rfl, rfl, rfl, rfl⟩ rfl rfl rfl rfl rfl (by kernel_rfl) Try.func8 (by kernel_rfl)
    (of_decide_eq_true (by kernel_rfl)) (by unfold Func.isWrapper; first | (rw [if_pos (by decide +kernel)]; kernel_rfl) | (rw [if_neg (by decide +kernel)]; exact ⟨rfl, rfl⟩))
    (fun os started H enc _ => lifted os started H enc)
end Go.Proofs.Ytajdgepnmbonaaa.cutLate
