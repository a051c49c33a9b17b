/- Iterators: gathered and sorted. -/
import Derived.Test.YtooadkecmchpaaaItA
import Derived.Test.YtooadkecmchpaaaSortA
set_option linter.unusedVariables false
set_option linter.unusedSimpArgs false
namespace Go.SL
open Go Go.Proofs
theorem sorted_spec {c : Value} {N : Nat} {Lf Lr : List HP} {seqs : Bool → List Int → Prop} (hi : IterC Try.prog c (fun k : Int => [.int .i64 k]) (fun k => intIn .i64 k) N Lf seqs) (hN : N ≤ 1099511627776) : Fn Try.prog 99 #[c] (Lf ++ Lr) (fun v L' => ∃ A' c' xs, v = .slice A' (srt xs).length c' ∧ seqs false xs ∧ L' = osl (intR .i64) 3 A' c' (srt xs) :: (Lf ++ Lr)) := by
  refine Fn_enter Try.func99 rfl rfl rfl rfl ?_
  refine T_region ?_
  refine TL_y rfl rfl (Y_assign rfl) ?_
  refine TL_nil ?_
  refine T_region ?_
  refine TL_y rfl rfl (Y_move rfl) ?_
  refine TL_call rfl rfl (collect_spec hi hN) ?_
  rintro _ _ ⟨A5, c5, xs, rfl, hs, rfl⟩
  refine TL_fact osl_len (fun _ h => h) fun hl5 => ?_
  simp only [maxEl] at hl5
  refine TL_y rfl rfl (Y_assign rfl) ?_
  refine TL_nil ?_
  refine T_region ?_
  refine TL_y rfl rfl (Y_move rfl) ?_
  refine TL_call rfl rfl (sort_spec (by omega)) ?_
  rintro _ _ ⟨rfl, rfl⟩
  refine TL_nil ?_
  refine T_region ?_
  refine TL_y rfl rfl (Y_move rfl) ?_
  refine TL_y rfl rfl (Y_assign rfl) ?_
  refine TL_nil ?_
  refine T_ret ?_
  rw [← srt_length xs]
  exact RetG_1 (.inl rfl) rfl (ResV.tmp rfl) GivesTo.g (⟨A5, c5, xs, rfl, hs, rfl⟩)
end Go.SL
