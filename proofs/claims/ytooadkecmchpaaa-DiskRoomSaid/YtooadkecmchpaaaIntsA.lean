/- Slices of numbers: cloned, wherever they lie. -/
import Derived.Test.YtooadkecmchpaaaSlV
import Derived.Test.YtooadkecmchpaaaSlT
import Derived.Test.YtooadkecmchpaaaSlU
set_option linter.unusedVariables false
set_option linter.unusedSimpArgs false
namespace Go.SL
open Go Go.Proofs
theorem cloneN_spec {L : List HP} {A : Option Addr} {c : Nat} {xs : List Int} (hk : SlN L (intR .i64) A c xs) (hb : xs.length ≤ 17592186043904) : Fn Try.prog 58 #[.slice A xs.length c] L (fun v L' => ∃ A' c', v = .slice A' xs.length c' ∧ L' = osl (intR .i64) 3 A' c' xs :: L) := by
  refine Fn_enter Try.func58 rfl rfl rfl rfl ?_
  refine T_region ?_
  refine TL_y rfl rfl (Y_assign rfl) ?_
  refine TL_nil ?_
  refine T_seq ?_
  refine T_region ?_
  refine TL_y rfl rfl (Y_move rfl) ?_
  refine TL_y rfl rfl (Y_equal rfl rfl (EqIs.slice_nil)) ?_
  refine TL_nil ?_
  refine T_if rfl (fun h4 => ?_) (fun h4 => ?_)
  · subst h4
    refine hk.none_nil fun e => ?_
    subst e
    refine T_onil (A := none) (intR .i64) 3 ?_
    refine T_region ?_
    refine TL_y rfl rfl (Y_assign rfl) ?_
    refine TL_nil ?_
    refine T_ret ?_
    refine thenS_ret ?_
    exact RetG_1 (.inl rfl) rfl (ResV.tmp rfl) GivesTo.g (⟨none, 0, rfl, rfl⟩)
  · refine T_skip ?_
    refine thenS_normal ?_
    refine T_region ?_
    refine TL_build_slice rfl rfl rfl rfl rfl rfl ?_
    intro b5
    refine TL_osl (k := 0) (intR .i64) [] (Knows.const fun M => rfl) rfl (by simp) ?_
    refine TL_name 5 (v' := .slice (some ⟨b5, 0, none⟩) ([] : List Int).length 0) rfl rfl ?_
    refine TL_y rfl rfl (Y_move rfl) ?_
    refine TL_append_n rfl rfl rfl rfl rfl hk (by simp; omega) ?_
    intro A7 c7
    refine TL_y rfl rfl (Y_assign rfl) ?_
    refine TL_nil ?_
    refine T_ret ?_
    simp only [List.nil_append]
    exact RetG_1 (.inl rfl) rfl (ResV.tmp rfl) GivesTo.g (⟨A7, c7, rfl, rfl⟩)
end Go.SL
