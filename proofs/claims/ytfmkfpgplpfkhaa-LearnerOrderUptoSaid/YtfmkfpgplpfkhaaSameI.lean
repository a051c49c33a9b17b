/- The walks of the functions that tell whether numbers are the same. -/
import Derived.Test.YtfmkfpgplpfkhaaSameA
set_option linter.unusedVariables false
set_option linter.unusedSimpArgs false
namespace Go.SL
open Go Go.Proofs
theorem sameInts_spec {L : List HP} {A B : Option Addr} {c d : Nat} {xs ys : List Int} (hk : SlN L (intR .i64) A c xs) (hk2 : SlN L (intR .i64) B d ys) : Fn Try.prog 29 #[.slice A xs.length c, .slice B ys.length d] L (fun v L' => v = .bool (decide (xs = ys)) ∧ L' = L) := by
  refine Fn_enter Try.func29 rfl rfl rfl rfl ?_
  refine hk.lens fun hl => ?_
  simp only [maxEl] at hl
  refine T_region ?_
  refine TL_y rfl rfl (Y_assign rfl) ?_
  refine TL_nil ?_
  refine T_seq ?_
  refine T_region ?_
  refine TL_y rfl rfl (Y_move rfl) ?_
  refine TL_y rfl rfl (Y_len rfl) ?_
  refine TL_y rfl rfl (Y_move rfl) ?_
  refine TL_y rfl rfl (Y_len rfl) ?_
  refine TL_y rfl rfl (Y_ne rfl rfl) ?_
  refine TL_nil ?_
  refine T_if rfl (fun h10 => ?_) (fun h10 => ?_)
  · refine T_region ?_
    refine TL_y rfl rfl (Y_assign rfl) ?_
    refine TL_nil ?_
    refine T_ret ?_
    refine thenS_ret ?_
    exact RetG_1 (.inl rfl) rfl (ResV.tmp rfl) GivesTo.g (⟨by rw [decide_eq_false]; rintro rfl; exact h10 rfl, rfl⟩)
  · refine T_skip ?_
    refine thenS_normal ?_
    refine T_seq ?_
    refine T_region ?_
    refine TL_y rfl rfl (Y_assign rfl) ?_
    refine TL_nil ?_
    refine T_block ?_
    refine T_loopK (σ := Nat) [0, 1] (fun i => i ≤ xs.length ∧ xs.take i = ys.take i) (fun i kv => (5, .int .i64 (i : Int)) :: kv) (fun i => L) (fun i => xs.length - i) (0) rfl (⟨Nat.zero_le _, rfl⟩) (GivesTo.g) (sub_cons rfl (sub_cons rfl (sub_cons rfl (sub_nil)))) ?_
    intro i hi
    refine T_seq ?_
    refine T_region ?_
    refine TL_y rfl rfl (Y_move rfl) ?_
    refine TL_y rfl rfl (Y_move rfl) ?_
    refine TL_y rfl rfl (Y_len rfl) ?_
    refine TL_y rfl rfl (Y_lt rfl rfl) ?_
    refine TL_nil ?_
    refine T_if rfl (fun h14 => ?_) (fun h14 => ?_)
    · refine T_skip ?_
      refine thenS_normal ?_
      refine T_seq ?_
      refine T_block ?_
      have hx := List.getElem?_eq_getElem (show i < xs.length by omega)
      have hy := List.getElem?_eq_getElem (show i < ys.length by omega)
      refine T_addr_n hk hx fun b1 o1 e1 => ?_
      refine T_addr_n hk2 hy fun b2 o2 e2 => ?_
      subst e1
      subst e2
      refine T_region_draw _ [0, 0, 3, 7, 0, 0, 48, 112, 255] [] [(0, true), (1, true), (2, true), (3, true), (4, true), (5, true), (6, true), (7, true), (8, true)] (by kernel_rfl) (by decide +kernel) (Gives.refl _) ?_
      refine TF_y rfl rfl (Y_move rfl) ?_
      refine TF_y rfl rfl (Y_move rfl) ?_
      refine TF_y rfl rfl (Y_index_n (R := intR .i64) (xs := xs) rfl rfl rfl hx) ?_
      refine TF_y rfl rfl (Y_load_n (q := 0) rfl hk hx rfl) ?_
      refine TF_y rfl rfl (Y_move rfl) ?_
      refine TF_y rfl rfl (Y_move rfl) ?_
      refine TF_y rfl rfl (Y_index_n (R := intR .i64) (xs := ys) rfl rfl rfl hy) ?_
      refine TF_y rfl rfl (Y_load_n (q := 0) rfl hk2 hy rfl) ?_
      refine TF_y rfl rfl (Y_ne rfl rfl) ?_
      refine TF_nil ?_
      refine T_if rfl (fun h25 => ?_) (fun h25 => ?_)
      · refine T_region ?_
        refine TL_y rfl rfl (Y_assign rfl) ?_
        refine TL_nil ?_
        refine T_ret ?_
        refine inB_ret ?_
        refine thenS_ret ?_
        refine thenS_ret ?_
        refine inB_ret ?_
        refine thenS_ret ?_
        exact RetG_1 (.inl rfl) rfl (ResV.tmp rfl) GivesTo.g (⟨by rw [decide_eq_false]; rintro rfl; exact h25 rfl, rfl⟩)
      · refine T_skip ?_
        refine inB_normal ?_
        refine thenS_normal ?_
        refine T_region_last ?_
        refine TL_y rfl rfl (Y_move rfl) ?_
        refine TL_y rfl rfl (Y_add rfl rfl (by omega)) ?_
        refine TL_name 16 (v' := .int .i64 ((i + 1 : Nat) : Int)) rfl (by simp) ?_
        refine TL_y rfl rfl (Y_assign rfl) ?_
        refine TL_nil ?_
        refine thenS_normal ?_
        exact ⟨i + 1, ⟨by omega, take_step hi.2 hx hy (Classical.not_not.1 h25)⟩, by omega, holds_to (sub_cons rfl (sub_cons rfl (sub_cons rfl (sub_nil)))) GivesTo.g⟩
    · refine T_exit ?_
      refine thenS_exit ?_
      refine thenS_exit ?_
      refine inB_hit ?_
      refine thenS_normal ?_
      refine T_region ?_
      refine TL_y rfl rfl (Y_assign rfl) ?_
      refine TL_nil ?_
      refine T_ret ?_
      exact RetG_1 (.inl rfl) rfl (ResV.tmp rfl) GivesTo.g (⟨by rw [decide_eq_true (take_all hi.2 (by omega) (by omega))], rfl⟩)
end Go.SL
