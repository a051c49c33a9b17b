/- The row 'CodecCuts', second form: the walk's contract, carried to the statement. -/
import Derived.Test.YtiiejjdkhekhmaaLawCodE
import Derived.Test.YtiiejjdkhekhmaaUpto
set_option linter.unusedVariables false
namespace Go.Proofs.Ytiiejjdkhekhmaa.codecCutsUpto
open Go.ChangeShapes Go.WideShapes Go.ChangeAt Go.RowKit Go.SL

theorem own : ownKnob Try.prog.godebug = none := by kernel_rfl
theorem laid : laidOutB Try.prog = true := by kernel_rfl
set_option maxRecDepth 100000 in
theorem contract (H : Type) (enc : TypeId × Value → H) (W : World) (base0 : Nat) (args : Array Value) (ds gs : List (DataW H)) (before : List MemPlace)
    (hval : ∀ (j : Nat) t v, Try.f14.params[j]? = some t → args[j]? = some v → Value.okWide Try.prog W .any base0 t v)
    (hW : DataW.Whole enc Try.prog Try.f14.params.toList Rows.codecCutsSpec.vars false W args.toList ds gs before)
    (hk : Rows.uptoSmall H (ds ++ gs) = true)
    (hs : (DataW.weightsEach Try.prog (Try.f14.params.toList ++ Rows.codecCutsSpec.plain.varTypes Try.prog) (ds ++ gs)).all (· ≤ reachBytes) = true) :
    Calls Try.prog 14 args W fun e W' => ∃ v, e = .returned v ∧ Rows.codecCutsSpec.post enc Try.prog Try.f14 false true false false W args v W' := by
  have hW' := hW
  obtain ⟨p, q, hA0, hV, rfl, hfz, hnd⟩ := hW
  have hA : DataW.TrodAll enc Try.prog W 0 (fun _ => true) true Try.f14.params.toList args.toList ds p := hA0
  rw [Try.params14] at hA hval hs
  obtain ⟨v0, vs0, d0, ds0, p0, q0, hargs, rfl, rfl, h0, r0⟩ := trodAll_cons hA
  obtain ⟨v1, vs1, d1, ds1, p1, q1, rfl, rfl, rfl, h1, r1⟩ := trodAll_cons r0
  obtain ⟨v2, vs2, d2, ds2, p2, q2, rfl, rfl, rfl, h2, r2⟩ := trodAll_cons r1
  obtain ⟨v3, vs3, d3, ds3, p3, q3, rfl, rfl, rfl, h3, r3⟩ := trodAll_cons r2
  obtain ⟨rfl, rfl, rfl⟩ := trodAll_nil r3
  obtain rfl : args = #[v0, v1, v2, v3] := by cases args; simp_all
  obtain ⟨rfl, rfl⟩ := trodVars_none hV
  have hB := up_bound hk
  simp only [List.append_nil, List.map_cons, List.map_nil, List.sum_cons, List.sum_nil] at hB
  have w0 : ∀ n ∈ d0.weights Try.prog 71, n ≤ reachBytes := fun n hn => by simpa using List.all_eq_true.1 hs n (DataW.weights_mem_each (j := 0) rfl rfl n hn)
  obtain ⟨x0, cs0, rfl, s0, e0, m0⟩ := arg_struct Try.underlying71 (reads_msg) (hval 0 71 v0 rfl rfl) h0 w0
  have u0 := m0 upB
  have w1 : ∀ n ∈ d1.weights Try.prog 75, n ≤ reachBytes := fun n hn => by simpa using List.all_eq_true.1 hs n (DataW.weights_mem_each (j := 1) rfl rfl n hn)
  obtain ⟨x1, cs1, rfl, s1, e1, m1⟩ := arg_struct Try.underlying75 (reads_event) (hval 1 75 v1 rfl rfl) h1 w1
  have u1 := m1 upB
  have w2 : ∀ n ∈ d2.weights Try.prog 65, n ≤ reachBytes := fun n hn => by simpa using List.all_eq_true.1 hs n (DataW.weights_mem_each (j := 2) rfl rfl n hn)
  obtain ⟨x2, cs2, rfl, s2, e2, m2⟩ := arg_struct Try.underlying65 (reads_seal) (hval 2 65 v2 rfl rfl) h2 w2
  have u2 := m2 upB
  obtain ⟨x3, rfl, i3⟩ := arg_int Try.underlying3 (hval 3 3 v3 rfl rfl) h3
  have r3 := i64In i3
  obtain ⟨p0, rfl, hs0, ok0⟩ := s0
  obtain ⟨k00, _, hs0⟩ := sl_split hs0
  obtain ⟨k01, _, hs0⟩ := sl_split hs0
  obtain ⟨k02, _, hs0⟩ := sl_split hs0
  obtain ⟨k03, _, hs0⟩ := sl_split hs0
  obtain ⟨p1, rfl, hs1, ok1⟩ := s1
  obtain ⟨k1, _, hs1⟩ := sl_split hs1
  obtain ⟨p2, rfl, hs2, ok2⟩ := s2
  obtain ⟨k2, _, hs2⟩ := sl_split hs2
  have hsl : cSeal x2 ≤ 140737488355328 := by have := cSeal_μ x2; omega
  have hsep : Sep (Go.SL.base (heapOf W) :: sl (intR .i64) p0.cut.1 p0.cut.2 x0.en.order.cut :: sl votedR p0.voted.1 p0.voted.2 x0.voted :: sl (intR .i64) p0.seen.1 p0.seen.2 x0.seen :: sl eventR p0.events.1 p0.events.2 x0.events :: sl (intR .i64) p1.1 p1.2 x1.deps :: sl (intR .i64) p2.1 p2.2 x2.cut :: []) (heapOf W) Mem.emp := sep_cons (Mem.le_refl _) (sep_cons k00 (sep_cons k01 (sep_cons k02 (sep_cons k03 (sep_cons k1 (sep_cons k2 sep_nil))))))
  refine (law_calls hsep (codecCuts_walk x0 x1 x2 x3 p0 p1 p2 ok0 ⟨slk, slk, slk, slk⟩ (cMsg_small (Nat.le_refl _) (by omega)) ok1 slk (cEvent_small (Nat.le_refl _) (by omega)) ok2 slk hsl i3)).mono fun e W' ⟨he, hb⟩ => ?_
  subst he
  exact ⟨_, rfl, post_true hW' hb laid (by kernel_rfl) rfl Try.underlying4 rfl rfl⟩

set_option maxRecDepth 100000 in
theorem lifted (os : Os) (started : os.Started) (H : Type) (enc : TypeId × Value → H) (F : Stop.Interp) :
    ReturnsInHanded {} Try.checked os 14 .any ((Rows.OpenSpec.upto Rows.codecCutsSpec).pre6 enc Try.prog Try.f14 Rows.codecCutsUptoRow.domain false) (((Rows.OpenSpec.upto Rows.codecCutsSpec).at F).post enc Try.prog Try.f14 false true false false) := by
  refine returnsInHanded_of_cond_sized (C := Try.checked) (s := Rows.OpenSpec.upto Rows.codecCutsSpec) (k := Rows.uptoSmall) rfl own started (by kernel_rfl) Try.func14
    (OpenSpec.witness (enc := enc) (C := Try.checked) (s := Rows.OpenSpec.upto Rows.codecCutsSpec) (k := Rows.uptoSmall) rfl false ⟨#[], #[.agg #[.int .i64 0, .int .i64 0, .int .i64 0, .int .i64 0, .int .i64 0, .int .i64 0, .bool false, .string ⟨#[]⟩, .string ⟨#[]⟩, .int .i64 0, .slice none 0 0, .slice none 0 0, .slice none 0 0, .slice none 0 0, .int .i64 0], .agg #[.int .i64 0, .int .i64 0, .slice none 0 0, .string ⟨#[]⟩, .int .i64 0, .string ⟨#[]⟩, .int .i64 0, .bool false], .agg #[.string ⟨#[]⟩, .string ⟨#[]⟩, .int .i64 0, .slice none 0 0], .int .i64 0], []⟩ 8 (by kernel_rfl) (by kernel_rfl) (by kernel_rfl)
      (x := ([.agg [.lit (.int .i64 0), .lit (.int .i64 0), .lit (.int .i64 0), .agg [.lit (.int .i64 0), .lit (.int .i64 0)], .lit (.int .i64 0), .agg [.lit (.bool false), .agg [.lit (.string []), .lit (.string []), .lit (.int .i64 0), .nil]], .nil, .nil, .nil, .lit (.int .i64 0)], .agg [.agg [.lit (.int .i64 0), .lit (.int .i64 0)], .nil, .lit (.string []), .lit (.int .i64 0), .lit (.string []), .lit (.int .i64 0), .lit (.bool false)], .agg [.lit (.string []), .lit (.string []), .lit (.int .i64 0), .nil], .lit (.int .i64 0)], [], [])) (by kernel_rfl) rfl (by kernel_rfl)) ?_
  intro W base args ds gs before hval hW _ hk hs _
  exact contract H enc W base args ds gs before hval hW hk hs

theorem proved : Rows.CodecCutsUptoSaid :=
  OpenClaim.holds_of_cond 14 Try.f14 rfl rfl rfl rfl rfl rfl rfl ⟨rfl, rfl, rfl, rfl, rfl⟩ rfl rfl rfl rfl rfl (by kernel_rfl) Try.func14 (by kernel_rfl)
    (of_decide_eq_true (by kernel_rfl)) (by unfold Func.isWrapper; first | (rw [if_pos (by decide +kernel)]; kernel_rfl) | (rw [if_neg (by decide +kernel)]; exact ⟨rfl, rfl⟩))
    (fun os started H enc _ F => lifted os started H enc F)
end Go.Proofs.Ytiiejjdkhekhmaa.codecCutsUpto
