/- Codec: the walks of the number writers and of what they call. -/
import Derived.Test.YtooadkecmchpaaaCodA
set_option linter.unusedVariables false
set_option linter.unusedSimpArgs false
namespace Go.SL
open Go Go.Proofs
theorem u64_small {x : Nat} (h : x < 18446744073709551616) : IntKind.u64.wrap (x : Int) = (x : Int) := IntWalk.u64_in _ (by omega)
theorem rem128 (y : Nat) : ((y : Int).tmod 128) = ((y % 128 : Nat) : Int) := by
  rw [Int.tmod_eq_emod_of_nonneg (by omega)]; omega
theorem quo128 {y : Nat} (h : y < 18446744073709551616) : IntKind.u64.wrap ((y : Int).tdiv 128) = ((y / 128 : Nat) : Int) := by
  rw [Int.tdiv_eq_ediv_of_nonneg (by omega), show (y : Int) / 128 = ((y / 128 : Nat) : Int) by omega, u64_small (by omega)]
theorem u8_in {x : Int} (h : 0 ≤ x ∧ x ≤ 255) : IntKind.u8.wrap x = x := IntWalk.u8_in _ h


theorem clone_u8_spec {L : List HP} {A : Option Addr} {c : Nat} {xs : List Int} (hk : SlK L (intR .u8) A c xs) (hb : xs.length ≤ 140737488355328) : Fn Try.prog 94 #[.slice A xs.length c] L (fun v L' => ∃ A' c', v = .slice A' xs.length c' ∧ L' = osl (intR .u8) 5 A' c' xs :: L) := by
  refine Fn_enter Try.func94 rfl rfl rfl rfl ?_
  refine T_region ?_
  refine TL_y rfl rfl (Y_assign rfl) ?_
  refine TL_nil ?_
  refine T_seq ?_
  refine T_region ?_
  refine TL_y rfl rfl (Y_move rfl) ?_
  refine TL_y rfl rfl (Y_equal rfl rfl (EqIs.slice_nil)) ?_
  refine TL_nil ?_
  refine T_if rfl (fun h4 => ?_) (fun h4 => ?_)
  · subst h4
    refine T_fact hk.none_nil (fun _ h => h) (fun e => ?_)
    subst e
    refine T_onil (A := none) (intR .u8) 5 ?_
    refine T_region ?_
    refine TL_y rfl rfl (Y_assign rfl) ?_
    refine TL_nil ?_
    refine T_ret ?_
    refine thenS_ret ?_
    exact RetG_1 (.inl rfl) rfl (ResV.tmp rfl) GivesTo.g (⟨none, 0, rfl, rfl⟩)
  · refine T_skip ?_
    refine thenS_normal ?_
    refine T_region ?_
    refine TL_build_slice rfl rfl rfl rfl rfl rfl ?_
    intro b5
    refine TL_osl (k := 0) (intR .u8) [] (Knows.const fun M => rfl) rfl (by simp) ?_
    refine TL_name 5 (v' := .slice (some ⟨b5, 0, none⟩) ([] : List Int).length 0) rfl rfl ?_
    refine TL_y rfl rfl (Y_move rfl) ?_
    refine TL_append rfl rfl rfl rfl rfl (hk) (by (try simp only [List.length_append, List.length_cons, List.length_nil]); omega) ?_
    intro A7 c7
    refine TL_y rfl rfl (Y_assign rfl) ?_
    refine TL_nil ?_
    refine T_ret ?_
    simp only [List.nil_append]
    exact RetG_1 (.inl rfl) rfl (ResV.tmp rfl) GivesTo.g (⟨A7, c7, rfl, rfl⟩)




end Go.SL
