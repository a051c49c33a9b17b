/- The row 'AcceptorReplays': the walk's contract, carried to the statement. -/
import Derived.Test.YtibejpgjgkeheaaGreatKrF
import Derived.Test.YtibejpgjgkeheaaGreatRows
import Derived.WalkKit
set_option linter.unusedVariables false
namespace Go.Proofs.YtibejpgjgkeheaaGreat.acceptorReplays
open Go.ChangeShapes Go.WideShapes Go.ChangeAt Go.RowKit Go.SL

theorem own : ownKnob Tryz.prog.godebug = none := by kernel_rfl
theorem laid : laidOutB Tryz.prog = true := by kernel_rfl
theorem bytes9 : Tryz.prog.bytesOf 9 = 16 := by kernel_rfl
set_option maxRecDepth 100000 in
theorem contract (H : Type) (enc : TypeId × Value → H) (W : World) (base0 : Nat) (args : Array Value) (ds gs : List (DataW H)) (before : List MemPlace)
    (hval : ∀ (j : Nat) t v, Tryz.f3.params[j]? = some t → args[j]? = some v → Value.okWide Tryz.prog W .any base0 t v)
    (hW : DataW.Whole enc Tryz.prog Tryz.f3.params.toList Rows.acceptorReplaysSpec.vars false W args.toList ds gs before)
    (hs : (DataW.weightsEach Tryz.prog (Tryz.f3.params.toList ++ Rows.acceptorReplaysSpec.plain.varTypes Tryz.prog) (ds ++ gs)).all (· ≤ reachBytes) = true) :
    Calls Tryz.prog 3 args W fun e W' => ∃ v, e = .returned v ∧ Rows.acceptorReplaysSpec.post enc Tryz.prog Tryz.f3 false true false false W args v W' := by
  have hW' := hW
  obtain ⟨p, q, hA0, hV, rfl, hfz, hnd⟩ := hW
  have hA : DataW.TrodAll enc Tryz.prog W 0 (fun _ => true) true Tryz.f3.params.toList args.toList ds p := hA0
  rw [Tryz.params3] at hA hval hs
  obtain ⟨v0, vs0, d0, ds0, p0, q0, hargs, rfl, rfl, h0, r0⟩ := trodAll_cons hA
  obtain ⟨v1, vs1, d1, ds1, p1, q1, rfl, rfl, rfl, h1, r1⟩ := trodAll_cons r0
  obtain ⟨rfl, rfl, rfl⟩ := trodAll_nil r1
  obtain rfl : args = #[v0, v1] := by cases args; simp_all
  obtain ⟨rfl, rfl⟩ := trodVars_none hV
  obtain ⟨x0, rfl, i0⟩ := arg_int Tryz.underlying3 (hval 0 3 v0 rfl rfl) h0
  have r0 := i64In i0
  have w1 : ∀ n ∈ d1.weights Tryz.prog 22, n ≤ reachBytes := fun n hn => by simpa using List.all_eq_true.1 hs n (DataW.weights_mem_each (j := 1) rfl rfl n hn)
  obtain ⟨A1, c1, xs1, rfl, s1, ⟨l1, e1⟩, m1⟩ := arg_slice Tryz.underlying22 (reads_slice Tryz.underlying22 (by kernel_rfl) (by decide) (by rw [bytes9]; decide) (reads_str Tryz.underlying9)) (hval 1 22 v1 rfl rfl) h1 w1
  rw [bytes9] at l1
  have hsep : Sep (Go.SL.base (heapOf W) :: sl strR A1 c1 xs1 :: []) (heapOf W) Mem.emp := sep_cons (Mem.le_refl _) (sep_cons s1 sep_nil)
  refine (law_calls hsep (acReplays_walk x0 slk (fun x hx => by have := e1 x hx; omega))).mono fun e W' ⟨he, hb⟩ => ?_
  subst he
  exact ⟨_, rfl, post_true hW' hb laid (by kernel_rfl) rfl Tryz.underlying4 rfl rfl⟩

set_option maxRecDepth 100000 in
theorem lifted (os : Os) (started : os.Started) (H : Type) (enc : TypeId × Value → H) :
    ReturnsInHanded {} Tryz.checked os 3 .any (Rows.acceptorReplaysSpec.pre6 enc Tryz.prog Tryz.f3 Rows.acceptorReplaysRow.domain false) (Rows.acceptorReplaysSpec.post enc Tryz.prog Tryz.f3 false true false false) := by
  refine returnsInHanded_of_change_sized own started (by kernel_rfl) Tryz.func3
    (ChangeSpec.witness6 (enc := enc) (C := Tryz.checked) (s := Rows.acceptorReplaysSpec) false ⟨#[], #[.int .i64 0, .slice none 0 0], []⟩ 8 (by kernel_rfl) (by kernel_rfl) (by kernel_rfl) (by kernel_rfl) (by kernel_rfl)) ?_
  intro W base args ds gs before hval hW _ hs _
  exact contract H enc W base args ds gs before hval hW hs

theorem proved : Rows.AcceptorReplaysSaid :=
  OpenClaim.holds_of_wide 3 Tryz.f3 rfl rfl rfl rfl rfl rfl rfl ⟨rfl, rfl, rfl, rfl, rfl⟩ rfl rfl rfl rfl rfl (by kernel_rfl) Tryz.func3 (by kernel_rfl)
    (of_decide_eq_true (by kernel_rfl)) (by unfold Func.isWrapper; first | (rw [if_pos (by decide +kernel)]; kernel_rfl) | (rw [if_neg (by decide +kernel)]; exact ⟨rfl, rfl⟩))
    (fun os started H enc _ => lifted os started H enc)
end Go.Proofs.YtibejpgjgkeheaaGreat.acceptorReplays
