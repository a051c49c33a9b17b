/- The row 'CartMerges', second form: the walk's contract, carried to the statement. -/
import Derived.Test.YtajdgepnmbonaaaCmD
import Derived.Test.YtajdgepnmbonaaaRows
import Derived.WalkKit
set_option linter.unusedVariables false
namespace Go.Proofs.Ytajdgepnmbonaaa.cartMergesUpto
open Go.ChangeShapes Go.WideShapes Go.ChangeAt Go.RowKit Go.SL

theorem own : ownKnob Try.prog.godebug = none := by kernel_rfl
theorem laid : laidOutB Try.prog = true := by kernel_rfl
theorem bytes29 : Try.prog.bytesOf 29 = 96 := by kernel_rfl
set_option maxRecDepth 100000 in
theorem contract (H : Type) (enc : TypeId × Value → H) (W : World) (base0 : Nat) (args : Array Value) (ds gs : List (DataW H)) (before : List MemPlace)
    (hval : ∀ (j : Nat) t v, Try.f11.params[j]? = some t → args[j]? = some v → Value.okWide Try.prog W .any base0 t v)
    (hW : DataW.Whole enc Try.prog Try.f11.params.toList Rows.cartMergesSpec.vars false W args.toList ds gs before)
    (hk : Rows.uptoSmall H (ds ++ gs) = true)
    (hs : (DataW.weightsEach Try.prog (Try.f11.params.toList ++ Rows.cartMergesSpec.plain.varTypes Try.prog) (ds ++ gs)).all (· ≤ reachBytes) = true) :
    Calls Try.prog 11 args W fun e W' => ∃ v, e = .returned v ∧ Rows.cartMergesSpec.post enc Try.prog Try.f11 false true false false W args v W' := by
  have hW' := hW
  obtain ⟨p, q, hA0, hV, rfl, hfz, hnd⟩ := hW
  have hA : DataW.TrodAll enc Try.prog W 0 (fun _ => true) true Try.f11.params.toList args.toList ds p := hA0
  rw [Try.params11] at hA hval hs
  obtain ⟨v0, vs0, d0, ds0, p0, q0, hargs, rfl, rfl, h0, r0⟩ := trodAll_cons hA
  obtain ⟨v1, vs1, d1, ds1, p1, q1, rfl, rfl, rfl, h1, r1⟩ := trodAll_cons r0
  obtain ⟨v2, vs2, d2, ds2, p2, q2, rfl, rfl, rfl, h2, r2⟩ := trodAll_cons r1
  obtain ⟨v3, vs3, d3, ds3, p3, q3, rfl, rfl, rfl, h3, r3⟩ := trodAll_cons r2
  obtain ⟨rfl, rfl, rfl⟩ := trodAll_nil r3
  obtain rfl : args = #[v0, v1, v2, v3] := by cases args; simp_all
  obtain ⟨rfl, rfl⟩ := trodVars_none hV
  have hB := up_bound hk
  simp only [List.append_nil, List.map_cons, List.map_nil, List.sum_cons, List.sum_nil] at hB
  have w0 : ∀ n ∈ d0.weights Try.prog 22, n ≤ reachBytes := fun n hn => by simpa using List.all_eq_true.1 hs n (DataW.weights_mem_each (j := 0) rfl rfl n hn)
  obtain ⟨A0, c0, xs0, rfl, s0, ⟨l0, e0⟩, m0⟩ := arg_slice Try.underlying22 (reads_slice Try.underlying22 (by kernel_rfl) (by decide) (by rw [bytes29]; decide) (reads_event)) (hval 0 22 v0 rfl rfl) h0 w0
  rw [bytes29] at l0
  have u0 := m0 upB
  have w1 : ∀ n ∈ d1.weights Try.prog 22, n ≤ reachBytes := fun n hn => by simpa using List.all_eq_true.1 hs n (DataW.weights_mem_each (j := 1) rfl rfl n hn)
  obtain ⟨A1, c1, xs1, rfl, s1, ⟨l1, e1⟩, m1⟩ := arg_slice Try.underlying22 (reads_slice Try.underlying22 (by kernel_rfl) (by decide) (by rw [bytes29]; decide) (reads_event)) (hval 1 22 v1 rfl rfl) h1 w1
  rw [bytes29] at l1
  have u1 := m1 upB
  have w2 : ∀ n ∈ d2.weights Try.prog 22, n ≤ reachBytes := fun n hn => by simpa using List.all_eq_true.1 hs n (DataW.weights_mem_each (j := 2) rfl rfl n hn)
  obtain ⟨A2, c2, xs2, rfl, s2, ⟨l2, e2⟩, m2⟩ := arg_slice Try.underlying22 (reads_slice Try.underlying22 (by kernel_rfl) (by decide) (by rw [bytes29]; decide) (reads_event)) (hval 2 22 v2 rfl rfl) h2 w2
  rw [bytes29] at l2
  have u2 := m2 upB
  have w3 : ∀ n ∈ d3.weights Try.prog 9, n ≤ reachBytes := fun n hn => by simpa using List.all_eq_true.1 hs n (DataW.weights_mem_each (j := 3) rfl rfl n hn)
  obtain ⟨x3, rfl, l3, m3⟩ := arg_str Try.underlying9 (hval 3 9 v3 rfl rfl) h3 w3
  have u3 := m3 upB
  have hlim0 : (xs0.map μEvent).sum ≤ 1048576 := (by omega)
  have hlim1 : (xs1.map μEvent).sum ≤ 1048576 := (by omega)
  have hlim2 : (xs2.map μEvent).sum ≤ 1048576 := (by omega)
  have hsep : Sep (Go.SL.base (heapOf W) :: sl eventR A0 c0 xs0 :: sl eventR A1 c1 xs1 :: sl eventR A2 c2 xs2 :: []) (heapOf W) Mem.emp := sep_cons (Mem.le_refl _) (sep_cons s0 (sep_cons s1 (sep_cons s2 sep_nil)))
  refine (law_calls hsep (cartMerges_walk x3 slk slk slk (events_len hlim0) (events_len hlim1) (events_len hlim2))).mono fun e W' ⟨he, hb⟩ => ?_
  subst he
  exact ⟨_, rfl, post_true hW' hb laid (by kernel_rfl) rfl Try.underlying4 rfl rfl⟩

set_option maxRecDepth 100000 in
theorem lifted (os : Os) (started : os.Started) (H : Type) (enc : TypeId × Value → H) (F : Stop.Interp) :
    ReturnsInHanded {} Try.checked os 11 .any ((Rows.OpenSpec.upto Rows.cartMergesSpec).pre6 enc Try.prog Try.f11 Rows.cartMergesUptoRow.domain false) (((Rows.OpenSpec.upto Rows.cartMergesSpec).at F).post enc Try.prog Try.f11 false true false false) := by
  refine returnsInHanded_of_cond_sized (C := Try.checked) (s := Rows.OpenSpec.upto Rows.cartMergesSpec) (k := Rows.uptoSmall) rfl own started (by kernel_rfl) Try.func11
    (OpenSpec.witness (enc := enc) (C := Try.checked) (s := Rows.OpenSpec.upto Rows.cartMergesSpec) (k := Rows.uptoSmall) rfl false ⟨#[], #[.slice none 0 0, .slice none 0 0, .slice none 0 0, .string ⟨#[]⟩], []⟩ 8 (by kernel_rfl) (by kernel_rfl) (by kernel_rfl)
      (x := ([.nil, .nil, .nil, .lit (.string [])], [], [])) (by kernel_rfl) rfl (by kernel_rfl)) ?_
  intro W base args ds gs before hval hW _ hk hs _
  exact contract H enc W base args ds gs before hval hW hk hs

theorem proved : Rows.CartMergesUptoSaid :=
  OpenClaim.holds_of_cond 11 Try.f11 rfl rfl rfl rfl rfl rfl rfl ⟨rfl, rfl, rfl, rfl, rfl⟩ rfl rfl rfl rfl rfl (by kernel_rfl) Try.func11 (by kernel_rfl)
    (of_decide_eq_true (by kernel_rfl)) (by unfold Func.isWrapper; first | (rw [if_pos (by decide +kernel)]; kernel_rfl) | (rw [if_neg (by decide +kernel)]; exact ⟨rfl, rfl⟩))
    (fun os started H enc _ F => lifted os started H enc F)
end Go.Proofs.Ytajdgepnmbonaaa.cartMergesUpto
