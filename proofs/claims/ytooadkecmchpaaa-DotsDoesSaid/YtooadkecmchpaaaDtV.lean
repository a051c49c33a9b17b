/- Dots: the document's vectors and dots. -/
import Derived.Test.YtooadkecmchpaaaDtU
import Derived.Test.YtooadkecmchpaaaDtX
import Derived.Test.YtooadkecmchpaaaDtP
set_option linter.unusedVariables false
set_option linter.unusedSimpArgs false
namespace Go.SL
open Go Go.Proofs
theorem refOf_spec {L : List HP} {A : Option Addr} {c : Nat} {xs : List Int} (hk : SlN L (intR .i64) A c xs) (o : Int) : Fn Try.prog 121 #[.slice A xs.length c, .int .i64 o] L (fun v L' => v = .int .i64 (ofV xs o) ∧ L' = L) := by
  refine Fn_enter Try.func121 rfl rfl rfl rfl ?_
  refine T_region ?_
  refine TL_y rfl rfl (Y_assign rfl) ?_
  refine TL_nil ?_
  refine T_seq ?_
  refine T_region ?_
  refine TL_y rfl rfl (Y_move rfl) ?_
  refine TL_y rfl rfl (Y_lt rfl rfl) ?_
  refine TL_both 6 12 (o < 0 ∨ (xs.length : Int) ≤ o) ?_ ?_
  · refine TL_y rfl rfl (Y_move rfl) ?_
    refine TL_splitd 7 rfl (fun h7 => ?_) (fun h7 => ?_)
    · refine TL_gskip rfl rfl rfl rfl ?_
      refine TL_gskip rfl rfl rfl rfl ?_
      refine TL_gskip rfl rfl rfl rfl ?_
      refine TL_gskip rfl rfl rfl rfl ?_
      refine TL_y rfl rfl (Y_pick_t rfl rfl) ?_
      refine TL_chain_end rfl ?_ (by repeat (first | exact sub_refl | refine sub_ext rfl ?_)) GivesTo.g
      exact congrArg Value.bool (decide_eq_true (by omega)).symm
    · refine TL_grun rfl rfl ?_
      refine TL_y rfl rfl (Y_move rfl) ?_
      refine TL_grun rfl rfl ?_
      refine TL_y rfl rfl (Y_move rfl) ?_
      refine TL_grun rfl rfl ?_
      refine TL_y rfl rfl (Y_len rfl) ?_
      refine TL_grun rfl rfl ?_
      refine TL_y rfl rfl (Y_ge rfl rfl) ?_
      refine TL_y rfl rfl (Y_pick_f rfl rfl) ?_
      refine TL_chain_end rfl ?_ (by repeat (first | exact sub_refl | refine sub_ext rfl ?_)) GivesTo.g
      exact congrArg Value.bool (decide_eq_decide.2 (by omega))
  refine TL_nil ?_
  refine T_if rfl (fun h12 => ?_) (fun h12 => ?_)
  · refine T_region ?_
    refine TL_y rfl rfl (Y_assign rfl) ?_
    refine TL_nil ?_
    refine T_ret ?_
    refine thenS_ret ?_
    exact RetG_1 (.inl rfl) rfl (ResV.tmp rfl) GivesTo.g (⟨by rw [ofV_out h12], rfl⟩)
  · refine T_skip ?_
    refine thenS_normal ?_
    obtain ⟨i, rfl⟩ : ∃ i : Nat, o = (i : Int) := ⟨o.toNat, by omega⟩
    obtain ⟨x, hx⟩ : ∃ x, xs[i]? = some x := ⟨_, List.getElem?_eq_getElem (by omega)⟩
    refine T_addr_n hk hx fun b1 o1 e1 => ?_
    subst e1
    refine T_region ?_
    refine TL_y rfl rfl (Y_move rfl) ?_
    refine TL_y rfl rfl (Y_move rfl) ?_
    refine TL_y rfl rfl (Y_index_n (R := intR .i64) (xs := xs) rfl rfl rfl hx) ?_
    refine TL_y rfl rfl (Y_load_n (q := 0) rfl hk hx rfl) ?_
    refine TL_y rfl rfl (Y_assign rfl) ?_
    refine TL_nil ?_
    refine T_ret ?_
    exact RetG_1 (.inl rfl) rfl (ResV.tmp rfl) GivesTo.g (⟨by rw [ofV_at hx], rfl⟩)
theorem refHas_spec {L : List HP} {A : Option Addr} {c : Nat} {xs : List Int} (hk : SlN L (intR .i64) A c xs) (d : DotD) : Fn Try.prog 105 #[.slice A xs.length c, dotV d] L (fun v L' => v = .bool (decide (hasV xs d)) ∧ L' = L) := by
  refine Fn_enter Try.func105 rfl rfl rfl rfl ?_
  refine T_region ?_
  refine TL_box rfl rfl rfl ?_
  intro b3
  refine TL_y rfl rfl (Y_assign rfl) ?_
  refine TL_nil ?_
  refine T_region_draw _ [0, 1, 3, 7, 15, 31, 15, 15, 143, 463, 1023, 2047, 4095] [] [(0, true), (1, true), (2, true), (3, true), (4, true), (5, true), (6, true), (7, true), (8, true), (9, false), (10, true), (11, true), (12, true)] (by kernel_rfl) (by decide +kernel) (Gives.refl _) ?_
  refine TF_y rfl rfl (Y_field_addr rfl) ?_
  refine TF_y rfl rfl (Y_load rfl rfl) ?_
  refine TF_y rfl rfl (Y_ge rfl rfl) ?_
  refine TF_y rfl rfl (Y_move rfl) ?_
  refine TF_splitd 8 rfl (fun h8 => ?_) (fun h8 => ?_)
  · refine TF_gy rfl rfl rfl rfl (Y_field_addr rfl) ?_
    refine TF_gy rfl rfl rfl rfl (Y_load rfl rfl) ?_
    refine TF_gy rfl rfl rfl rfl (Y_move rfl) ?_
    refine TF_gy rfl rfl rfl rfl (Y_field_addr rfl) ?_
    refine TF_gy rfl rfl rfl rfl (Y_load rfl rfl) ?_
    refine TF_anchor rfl ?_
    refine TL_grun rfl rfl ?_
    refine TL_call rfl rfl (refOf_spec hk.tail d.1) ?_
    rintro _ _ ⟨rfl, rfl⟩
    refine TF_end GivesTo.g ?_
    refine TF_gy rfl rfl rfl rfl (Y_le rfl rfl) ?_
    refine TF_y rfl rfl (Y_pick_t rfl rfl) ?_
    refine TF_y rfl rfl (Y_assign rfl) ?_
    refine TF_nil ?_
    refine T_ret ?_
    exact RetG_1 (.inl rfl) rfl (ResV.tmp rfl) GivesTo.g (⟨congrArg Value.bool (decide_eq_decide.2 ⟨fun h => ⟨by omega, h⟩, fun h => h.2⟩), rfl⟩)
  · refine TF_gskip rfl rfl rfl rfl rfl ?_
    refine TF_gskip rfl rfl rfl rfl rfl ?_
    refine TF_gskip rfl rfl rfl rfl rfl ?_
    refine TF_gskip rfl rfl rfl rfl rfl ?_
    refine TF_gskip rfl rfl rfl rfl rfl ?_
    refine TF_anchor rfl ?_
    refine TL_gskip rfl rfl rfl rfl ?_
    refine TF_end GivesTo.g ?_
    refine TF_gskip rfl rfl rfl rfl rfl ?_
    refine TF_y rfl rfl (Y_pick_f rfl rfl) ?_
    refine TF_y rfl rfl (Y_assign rfl) ?_
    refine TF_nil ?_
    refine T_ret ?_
    exact RetG_1 (.inl rfl) rfl (ResV.tmp rfl) GivesTo.g (⟨congrArg Value.bool (decide_eq_false fun h => by have := h.1; omega).symm, rfl⟩)
theorem refPlain_spec {L : List HP} {A : Option Addr} {c : Nat} {xs : List Int} (hk : SlN L (intR .i64) A c xs) (hb : xs.length ≤ 17592186043904) : Fn Try.prog 104 #[.slice A xs.length c] L (fun v L' => ∃ A' c', v = .slice A' (plainV xs).length c' ∧ L' = osl (intR .i64) 3 A' c' (plainV xs) :: L) := by
  refine Fn_enter Try.func104 rfl rfl rfl rfl ?_
  refine hk.lens fun hl => ?_
  refine T_region ?_
  refine TL_y rfl rfl (Y_assign rfl) ?_
  refine TL_nil ?_
  refine T_region ?_
  refine TL_y rfl rfl (Y_move rfl) ?_
  refine TL_y rfl rfl (Y_len rfl) ?_
  refine TL_y rfl rfl (Y_assign rfl) ?_
  refine TL_nil ?_
  refine T_seq ?_
  refine T_block ?_
  refine T_loopK (σ := Nat) [0] (fun e => e ≤ xs.length ∧ ∀ x ∈ xs.drop e, x = 0) (fun e kv => (3, .int .i64 (e : Int)) :: kv) (fun e => L) (fun e => e) (xs.length) rfl (⟨Nat.le_refl _, by simp⟩) (GivesTo.g) (sub_cons rfl (sub_cons rfl (sub_nil))) ?_
  rintro e ⟨he, hz⟩
  refine T_seq ?_
  refine T_region ?_
  refine TL_y rfl rfl (Y_move rfl) ?_
  refine TL_y rfl rfl (Y_gt rfl rfl) ?_
  refine TL_y rfl rfl (Y_move rfl) ?_
  refine TL_splitd 8 rfl (fun h8 => ?_) (fun h8 => ?_)
  · refine TL_grun rfl rfl ?_
    refine TL_y rfl rfl (Y_move rfl) ?_
    refine TL_grun rfl rfl ?_
    refine TL_y rfl rfl (Y_move rfl) ?_
    refine TL_grun rfl rfl ?_
    obtain ⟨q, hq⟩ : ∃ q, xs[e - 1]? = some q := ⟨_, List.getElem?_eq_getElem (by omega)⟩
    refine TL_y rfl rfl (Y_sub rfl rfl (by omega)) ?_
    refine TL_name 11 (v' := .int .i64 ((e - 1 : Nat) : Int)) rfl (by congr 1; omega) ?_
    refine TL_grun rfl rfl ?_
    refine TL_index_n rfl rfl rfl rfl hk hq ?_
    intro bn12 on12 hA12 hk12
    have hu12 := hq
    refine TL_grun rfl rfl ?_
    refine TL_y rfl rfl (Y_load_n rfl hk12 hu12 rfl) ?_
    refine TL_grun rfl rfl ?_
    refine TL_y rfl rfl (Y_eq rfl rfl) ?_
    refine TL_y rfl rfl (Y_pick_t rfl rfl) ?_
    refine TL_nil ?_
    refine T_if rfl (fun h15 => ?_) (fun h15 => ?_)
    · refine T_skip ?_
      refine thenS_normal ?_
      refine T_block ?_
      refine T_region_last ?_
      refine TL_y rfl rfl (Y_move rfl) ?_
      refine TL_y rfl rfl (Y_sub rfl rfl (by omega)) ?_
      refine TL_name 17 (v' := .int .i64 ((e - 1 : Nat) : Int)) rfl (by congr 1; omega) ?_
      refine TL_y rfl rfl (Y_assign rfl) ?_
      refine TL_nil ?_
      refine inB_normal ?_
      refine thenS_normal ?_
      exact ⟨e - 1, ⟨by omega, by rw [List.drop_eq_getElem_cons (show e - 1 < xs.length by omega), show e - 1 + 1 = e by omega]; intro x hx; rcases List.mem_cons.1 hx with rfl | hx; (have := (List.getElem?_eq_some_iff.1 hq).2; rw [this]; exact h15); exact hz x hx⟩, by omega, holds_to (sub_cons rfl (sub_cons rfl (sub_nil))) GivesTo.g⟩
    · refine T_exit ?_
      refine thenS_exit ?_
      refine thenS_exit ?_
      refine inB_hit ?_
      refine thenS_normal ?_
      have hp : plainV xs = xs.take e := plain_take he hz (.inr ⟨q, hq, h15⟩)
      have hle : (xs.take e).length = e := by rw [List.length_take]; omega
      refine T_region ?_
      refine TL_build_slice rfl rfl rfl rfl rfl rfl ?_
      intro b18
      refine TL_osl (k := 0) (intR .i64) [] (Knows.const fun M => rfl) rfl (by simp) ?_
      refine TL_name 18 (v' := .slice (some ⟨b18, 0, none⟩) ([] : List Int).length 0) rfl rfl ?_
      refine TL_y rfl rfl (Y_move rfl) ?_
      refine TL_y rfl rfl (Y_move rfl) ?_
      refine TL_y rfl rfl (Y_cut_h rfl rfl (by omega)) ?_
      refine TL_name 21 (v' := .slice A (xs.take e).length c) rfl (by rw [hle]; rfl) ?_
      refine TL_append_n rfl rfl rfl rfl rfl (hk.take e) (by simp only [List.length_nil, List.length_take]; omega) ?_
      intro A22 c22
      simp only [List.nil_append]
      refine TL_y rfl rfl (Y_assign rfl) ?_
      refine TL_nil ?_
      refine T_ret ?_
      rw [hp]
      exact RetG_1 (.inl rfl) rfl (ResV.tmp rfl) GivesTo.g (⟨A22, c22, rfl, rfl⟩)
  · refine TL_gskip rfl rfl rfl rfl ?_
    refine TL_gskip rfl rfl rfl rfl ?_
    refine TL_gskip rfl rfl rfl rfl ?_
    refine TL_gskip rfl rfl rfl rfl ?_
    refine TL_gskip rfl rfl rfl rfl ?_
    refine TL_gskip rfl rfl rfl rfl ?_
    refine TL_y rfl rfl (Y_pick_f rfl rfl) ?_
    refine TL_name 15 (v' := .bool false) rfl (by simp) ?_
    refine TL_nil ?_
    refine T_cond_false rfl ?_
    refine T_exit ?_
    refine thenS_exit ?_
    refine thenS_exit ?_
    refine inB_hit ?_
    refine thenS_normal ?_
    have hp : plainV xs = xs.take e := plain_take he hz (.inl (by omega))
    have hle : (xs.take e).length = e := by rw [List.length_take]; omega
    refine T_region ?_
    refine TL_build_slice rfl rfl rfl rfl rfl rfl ?_
    intro b18
    refine TL_osl (k := 0) (intR .i64) [] (Knows.const fun M => rfl) rfl (by simp) ?_
    refine TL_name 18 (v' := .slice (some ⟨b18, 0, none⟩) ([] : List Int).length 0) rfl rfl ?_
    refine TL_y rfl rfl (Y_move rfl) ?_
    refine TL_y rfl rfl (Y_move rfl) ?_
    refine TL_y rfl rfl (Y_cut_h rfl rfl (by omega)) ?_
    refine TL_name 21 (v' := .slice A (xs.take e).length c) rfl (by rw [hle]; rfl) ?_
    refine TL_append_n rfl rfl rfl rfl rfl (hk.take e) (by simp only [List.length_nil, List.length_take]; omega) ?_
    intro A22 c22
    simp only [List.nil_append]
    refine TL_y rfl rfl (Y_assign rfl) ?_
    refine TL_nil ?_
    refine T_ret ?_
    rw [hp]
    exact RetG_1 (.inl rfl) rfl (ResV.tmp rfl) GivesTo.g (⟨A22, c22, rfl, rfl⟩)
theorem refLess_spec (L : List HP) (a b : DotD) : Fn Try.prog 65 #[dotV a, dotV b] L (fun v L' => v = .bool (lessD a b) ∧ L' = L) := by
  refine Fn_enter Try.func65 rfl rfl rfl rfl ?_
  refine T_region ?_
  refine TL_box rfl rfl rfl ?_
  intro b2
  refine TL_box rfl rfl rfl ?_
  intro b3
  refine TL_y rfl rfl (Y_assign rfl) ?_
  refine TL_nil ?_
  refine T_region ?_
  refine TL_y rfl rfl (Y_field_addr rfl) ?_
  refine TL_y rfl rfl (Y_load rfl rfl) ?_
  refine TL_y rfl rfl (Y_field_addr rfl) ?_
  refine TL_y rfl rfl (Y_load rfl rfl) ?_
  refine TL_y rfl rfl (Y_lt rfl rfl) ?_
  refine TL_both 14 23 (a.1 < b.1 ∨ (a.1 = b.1 ∧ a.2 < b.2)) ?_ ?_
  · refine TL_y rfl rfl (Y_move rfl) ?_
    refine TL_splitd 10 rfl (fun h10 => ?_) (fun h10 => ?_)
    · refine TL_gskip rfl rfl rfl rfl ?_
      refine TL_gskip rfl rfl rfl rfl ?_
      refine TL_gskip rfl rfl rfl rfl ?_
      refine TL_gskip rfl rfl rfl rfl ?_
      refine TL_gskip rfl rfl rfl rfl ?_
      refine TL_gskip rfl rfl rfl rfl ?_
      refine TL_gskip_u rfl rfl rfl ?_
      refine TL_gskip_u rfl rfl rfl ?_
      refine TL_gskip_u rfl rfl rfl ?_
      refine TL_gskip_u rfl rfl rfl ?_
      refine TL_gskip_u rfl rfl rfl ?_
      refine TL_gskip rfl rfl rfl rfl ?_
      refine TL_y rfl rfl (Y_pick_t rfl rfl) ?_
      refine TL_chain_end rfl ?_ (by repeat (first | exact sub_refl | refine sub_ext rfl ?_)) GivesTo.g
      exact congrArg Value.bool (decide_eq_true (by omega)).symm
    · refine TL_grun rfl rfl ?_
      refine TL_y rfl rfl (Y_field_addr rfl) ?_
      refine TL_grun rfl rfl ?_
      refine TL_y rfl rfl (Y_load rfl rfl) ?_
      refine TL_grun rfl rfl ?_
      refine TL_y rfl rfl (Y_field_addr rfl) ?_
      refine TL_grun rfl rfl ?_
      refine TL_y rfl rfl (Y_load rfl rfl) ?_
      refine TL_grun rfl rfl ?_
      refine TL_y rfl rfl (Y_eq rfl rfl) ?_
      refine TL_grun rfl rfl ?_
      refine TL_y rfl rfl (Y_move rfl) ?_
      refine TL_splitd 16 rfl (fun h16 => ?_) (fun h16 => ?_)
      · refine TL_grun rfl rfl ?_
        refine TL_y rfl rfl (Y_field_addr rfl) ?_
        refine TL_grun rfl rfl ?_
        refine TL_y rfl rfl (Y_load rfl rfl) ?_
        refine TL_grun rfl rfl ?_
        refine TL_y rfl rfl (Y_field_addr rfl) ?_
        refine TL_grun rfl rfl ?_
        refine TL_y rfl rfl (Y_load rfl rfl) ?_
        refine TL_grun rfl rfl ?_
        refine TL_y rfl rfl (Y_lt rfl rfl) ?_
        refine TL_grun rfl rfl ?_
        refine TL_y rfl rfl (Y_pick_t rfl rfl) ?_
        refine TL_y rfl rfl (Y_pick_f rfl rfl) ?_
        refine TL_chain_end rfl ?_ (by repeat (first | exact sub_refl | refine sub_ext rfl ?_)) GivesTo.g
        exact congrArg Value.bool (decide_eq_decide.2 (by omega))
      · refine TL_gskip rfl rfl rfl rfl ?_
        refine TL_gskip rfl rfl rfl rfl ?_
        refine TL_gskip rfl rfl rfl rfl ?_
        refine TL_gskip rfl rfl rfl rfl ?_
        refine TL_gskip rfl rfl rfl rfl ?_
        refine TL_grun rfl rfl ?_
        refine TL_y rfl rfl (Y_pick_f rfl rfl) ?_
        refine TL_y rfl rfl (Y_pick_f rfl rfl) ?_
        refine TL_chain_end rfl ?_ (by repeat (first | exact sub_refl | refine sub_ext rfl ?_)) GivesTo.g
        exact congrArg Value.bool (decide_eq_false (by omega)).symm
  refine TL_y rfl rfl (Y_assign rfl) ?_
  refine TL_nil ?_
  refine T_ret ?_
  exact RetG_1 (.inl rfl) rfl (ResV.tmp rfl) GivesTo.g (⟨rfl, rfl⟩)
theorem refMayD_spec (L : List HP) (d : DotD) : Fn Try.prog 64 #[dotV d] L (fun v L' => v = .bool (decide (mayD d)) ∧ L' = L) := by
  refine Fn_enter Try.func64 rfl rfl rfl rfl ?_
  refine T_region ?_
  refine TL_box rfl rfl rfl ?_
  intro b1
  refine TL_y rfl rfl (Y_assign rfl) ?_
  refine TL_nil ?_
  refine T_region ?_
  refine TL_y rfl rfl (Y_field_addr rfl) ?_
  refine TL_y rfl rfl (Y_load rfl rfl) ?_
  refine TL_y rfl rfl (Y_ge rfl rfl) ?_
  refine TL_both 15 20 (mayD d) ?_ ?_
  · refine TL_y rfl rfl (Y_move rfl) ?_
    refine TL_splitd 6 rfl (fun h6 => ?_) (fun h6 => ?_)
    · refine TL_grun rfl rfl ?_
      refine TL_y rfl rfl (Y_field_addr rfl) ?_
      refine TL_grun rfl rfl ?_
      refine TL_y rfl rfl (Y_load rfl rfl) ?_
      refine TL_grun rfl rfl ?_
      refine TL_y rfl rfl (Y_le rfl rfl) ?_
      refine TL_y rfl rfl (Y_pick_t rfl rfl) ?_
      refine TL_y rfl rfl (Y_move rfl) ?_
      refine TL_splitd 11 rfl (fun h11 => ?_) (fun h11 => ?_)
      · refine TL_grun rfl rfl ?_
        refine TL_y rfl rfl (Y_field_addr rfl) ?_
        refine TL_grun rfl rfl ?_
        refine TL_y rfl rfl (Y_load rfl rfl) ?_
        refine TL_grun rfl rfl ?_
        refine TL_y rfl rfl (Y_ge rfl rfl) ?_
        refine TL_y rfl rfl (Y_pick_t rfl rfl) ?_
        refine TL_y rfl rfl (Y_move rfl) ?_
        refine TL_splitd 16 rfl (fun h16 => ?_) (fun h16 => ?_)
        · refine TL_grun rfl rfl ?_
          refine TL_y rfl rfl (Y_field_addr rfl) ?_
          refine TL_grun rfl rfl ?_
          refine TL_y rfl rfl (Y_load rfl rfl) ?_
          refine TL_grun rfl rfl ?_
          refine TL_y rfl rfl (Y_le rfl rfl) ?_
          refine TL_y rfl rfl (Y_pick_t rfl rfl) ?_
          refine TL_chain_end rfl ?_ (by repeat (first | exact sub_refl | refine sub_ext rfl ?_)) GivesTo.g
          exact congrArg Value.bool (decide_eq_decide.2 (by unfold mayD; omega))
        · refine TL_gskip rfl rfl rfl rfl ?_
          refine TL_gskip rfl rfl rfl rfl ?_
          refine TL_gskip rfl rfl rfl rfl ?_
          refine TL_y rfl rfl (Y_pick_f rfl rfl) ?_
          refine TL_chain_end rfl ?_ (by repeat (first | exact sub_refl | refine sub_ext rfl ?_)) GivesTo.g
          exact congrArg Value.bool (decide_eq_false (by unfold mayD; omega)).symm
      · refine TL_gskip rfl rfl rfl rfl ?_
        refine TL_gskip rfl rfl rfl rfl ?_
        refine TL_gskip rfl rfl rfl rfl ?_
        refine TL_y rfl rfl (Y_pick_f rfl rfl) ?_
        refine TL_y rfl rfl (Y_move rfl) ?_
        refine TL_gskip rfl rfl rfl rfl ?_
        refine TL_gskip rfl rfl rfl rfl ?_
        refine TL_gskip rfl rfl rfl rfl ?_
        refine TL_y rfl rfl (Y_pick_f rfl rfl) ?_
        refine TL_chain_end rfl ?_ (by repeat (first | exact sub_refl | refine sub_ext rfl ?_)) GivesTo.g
        exact congrArg Value.bool (decide_eq_false (by unfold mayD; omega)).symm
    · refine TL_gskip rfl rfl rfl rfl ?_
      refine TL_gskip rfl rfl rfl rfl ?_
      refine TL_gskip rfl rfl rfl rfl ?_
      refine TL_y rfl rfl (Y_pick_f rfl rfl) ?_
      refine TL_y rfl rfl (Y_move rfl) ?_
      refine TL_gskip rfl rfl rfl rfl ?_
      refine TL_gskip rfl rfl rfl rfl ?_
      refine TL_gskip rfl rfl rfl rfl ?_
      refine TL_y rfl rfl (Y_pick_f rfl rfl) ?_
      refine TL_y rfl rfl (Y_move rfl) ?_
      refine TL_gskip rfl rfl rfl rfl ?_
      refine TL_gskip rfl rfl rfl rfl ?_
      refine TL_gskip rfl rfl rfl rfl ?_
      refine TL_y rfl rfl (Y_pick_f rfl rfl) ?_
      refine TL_chain_end rfl ?_ (by repeat (first | exact sub_refl | refine sub_ext rfl ?_)) GivesTo.g
      exact congrArg Value.bool (decide_eq_false (by unfold mayD; omega)).symm
  refine TL_y rfl rfl (Y_assign rfl) ?_
  refine TL_nil ?_
  refine T_ret ?_
  exact RetG_1 (.inl rfl) rfl (ResV.tmp rfl) GivesTo.g (⟨rfl, rfl⟩)
/-! ### Between -/
structure BwSt where
  i : Nat
  A : Option Addr
  c : Nat
structure BvSt where
  j : Nat
  A : Option Addr
  c : Nat
theorem refBetween_spec {L : List HP} {A B : Option Addr} {c d : Nat} {a b : List Int} (most : Nat) (hm : most ≤ 1000000) (ha : SlN L (intR .i64) A c a) (hb : SlN L (intR .i64) B d b) : Fn Try.prog 106 #[.slice A a.length c, .slice B b.length d, .int .i64 (most : Int)] L (fun v L' => ∃ X cx, v = .slice X ((betL a b).take most).length cx ∧ L' = osl dotR 31 X cx ((betL a b).take most) :: L) := by
  refine Fn_enter Try.func106 rfl rfl rfl rfl ?_
  refine hb.lens fun hl => ?_
  simp only [maxEl] at hl
  refine T_gives (show Gives _ (osl dotR 31 none 0 ((betP a b 0).take most) :: _) from by rw [show (betP a b 0).take most = [] by simp [betP]]; exact osl_nil dotR 31 none _) ?_
  refine T_region ?_
  refine TL_y rfl rfl (Y_assign rfl) ?_
  refine TL_nil ?_
  refine T_region ?_
  refine TL_y rfl rfl (Y_assign rfl) ?_
  refine TL_nil ?_
  refine T_seq ?_
  have e0 : ((betP a b 0).take most).length = 0 := by simp [betP]
  refine T_region ?_
  refine TL_y rfl rfl (Y_assign rfl) ?_
  refine TL_nil ?_
  refine T_block ?_
  refine T_loopK (σ := BwSt) [0, 1, 2] (fun g => g.i ≤ b.length) (fun g kv => (7, .slice g.A ((betP a b g.i).take most).length g.c) :: (8, .int .i64 (g.i : Int)) :: kv) (fun g => osl dotR 31 g.A g.c ((betP a b g.i).take most) :: L) (fun g => b.length - g.i) (⟨0, none, 0⟩) rfl (Nat.zero_le _) (GivesTo.g) (sub_cons (by show some (Value.slice none 0 0) = some (Value.slice none ((betP a b 0).take most).length 0); rw [e0]) (sub_cons rfl (sub_cons rfl (sub_cons rfl (sub_cons rfl (sub_nil)))))) ?_
  rintro ⟨i, X, cx⟩ hi
  dsimp only at hi ⊢
  refine T_seq ?_
  refine T_region ?_
  refine TL_y rfl rfl (Y_move rfl) ?_
  refine TL_y rfl rfl (Y_move rfl) ?_
  refine TL_y rfl rfl (Y_len rfl) ?_
  refine TL_y rfl rfl (Y_lt rfl rfl) ?_
  refine TL_nil ?_
  refine T_if rfl (fun h14 => ?_) (fun h14 => ?_)
  · refine T_skip ?_
    refine thenS_normal ?_
    refine T_seq ?_
    refine T_block ?_
    obtain ⟨bi, hbi⟩ : ∃ bi, b[i]? = some bi := ⟨_, List.getElem?_eq_getElem (by omega)⟩
    refine T_elem_fact hb.tail hbi (fun M l h => h.2) fun hbx => ?_
    have hbx' := i64In hbx
    refine T_addr_n hb.tail hbi fun bq oq eq => ?_
    subst eq
    refine T_region ?_
    refine TL_y rfl rfl (Y_move rfl) ?_
    refine TL_y rfl rfl (Y_move rfl) ?_
    refine TL_call rfl rfl (refOf_spec ha.tail (i : Int)) ?_
    rintro _ _ ⟨rfl, rfl⟩
    obtain ⟨mx, hmx⟩ : ∃ mx : Int, mx = max (ofV a (i : Int)) 0 := ⟨_, rfl⟩
    have hbl : (betO a b i).length = (bi - mx).toNat := by rw [betO_len, hbi, hmx]; rfl
    refine TL_y rfl rfl (Y_assign rfl) ?_
    refine TL_nil ?_
    refine T_seq ?_
    refine T_region ?_
    refine TL_y rfl rfl (Y_move rfl) ?_
    refine TL_y rfl rfl (Y_lt rfl rfl) ?_
    refine TL_nil ?_
    refine T_if rfl (fun h21 => ?_) (fun h21 => ?_)
    · refine T_region_last ?_
      refine TL_y rfl rfl (Y_assign rfl) ?_
      refine TL_nil ?_
      refine thenS_normal ?_
      rw [show (betP a b i).take most = (betP a b i ++ (betO a b i).take 0).take most by simp]
      refine T_region ?_
      refine TL_y rfl rfl (Y_move rfl) ?_
      refine TL_name 22 (v' := .int .i64 mx) rfl (by congr 1; omega) ?_
      refine TL_y rfl rfl (Y_assign rfl) ?_
      refine TL_nil ?_
      refine T_block ?_
      refine T_loopK (σ := BvSt) [0, 1, 2, 8] (fun g => g.j ≤ (betO a b i).length) (fun g kv => (7, .slice g.A ((betP a b i ++ (betO a b i).take g.j).take most).length g.c) :: (10, .int .i64 (mx + (g.j : Int))) :: kv) (fun g => osl dotR 31 g.A g.c ((betP a b i ++ (betO a b i).take g.j).take most) :: L) (fun g => (betO a b i).length - g.j) (⟨0, X, cx⟩) rfl (Nat.zero_le _) (GivesTo.g) (sub_cons rfl (sub_cons (by show some (Value.int .i64 mx) = some (Value.int .i64 (mx + ((0 : Nat) : Int))); simp) (sub_cons rfl (sub_cons rfl (sub_cons rfl (sub_cons rfl (sub_nil))))))) ?_
      rintro ⟨j, X2, c2⟩ hj
      dsimp only at hj ⊢
      refine T_seq ?_
      refine T_region ?_
      refine TL_y rfl rfl (Y_move rfl) ?_
      refine TL_y rfl rfl (Y_move rfl) ?_
      refine TL_y rfl rfl (Y_move rfl) ?_
      refine TL_y rfl rfl (Y_index_n (R := intR .i64) (xs := b) rfl rfl rfl hbi) ?_
      refine TL_y rfl rfl (Y_load_n (q := 0) rfl hb.tail hbi rfl) ?_
      refine TL_both 7 34 (j < (betO a b i).length ∧ ((betP a b i ++ (betO a b i).take j).take most).length < most) ?_ ?_
      · refine TL_y rfl rfl (Y_lt rfl rfl) ?_
        refine TL_y rfl rfl (Y_move rfl) ?_
        refine TL_splitd 29 rfl (fun h29 => ?_) (fun h29 => ?_)
        · refine TL_grun rfl rfl ?_
          refine TL_y rfl rfl (Y_move rfl) ?_
          refine TL_grun rfl rfl ?_
          refine TL_y rfl rfl (Y_len rfl) ?_
          refine TL_grun rfl rfl ?_
          refine TL_y rfl rfl (Y_move rfl) ?_
          refine TL_grun rfl rfl ?_
          refine TL_y rfl rfl (Y_lt rfl rfl) ?_
          refine TL_y rfl rfl (Y_pick_t rfl rfl) ?_
          refine TL_chain_end rfl ?_ (by repeat (first | exact sub_refl | refine sub_ext rfl ?_)) GivesTo.g
          exact congrArg Value.bool (decide_eq_decide.2 (by omega))
        · refine TL_gskip rfl rfl rfl rfl ?_
          refine TL_gskip rfl rfl rfl rfl ?_
          refine TL_gskip rfl rfl rfl rfl ?_
          refine TL_gskip rfl rfl rfl rfl ?_
          refine TL_y rfl rfl (Y_pick_f rfl rfl) ?_
          refine TL_chain_end rfl ?_ (by repeat (first | exact sub_refl | refine sub_ext rfl ?_)) GivesTo.g
          exact congrArg Value.bool (decide_eq_false (by omega)).symm
      refine TL_nil ?_
      refine T_if rfl (fun h34 => ?_) (fun h34 => ?_)
      · refine T_skip ?_
        refine thenS_normal ?_
        refine T_seq ?_
        refine T_block ?_
        have hat : (betO a b i)[j]? = some ((i : Int), mx + 1 + (j : Int)) := by rw [betO_at (by rw [← betO_len]; omega), ← hmx]
        have hst : (betP a b i ++ (betO a b i).take j).take most ++ [((i : Int), mx + 1 + (j : Int))] = (betP a b i ++ (betO a b i).take (j + 1)).take most := by rw [take_snoc h34.2, List.append_assoc, ← takeAt hat]
        refine T_region_last ?_
        refine TL_y rfl rfl (Y_move rfl) ?_
        refine TL_y rfl rfl (Y_move rfl) ?_
        refine TL_y rfl rfl (Y_move rfl) ?_
        refine TL_y rfl rfl (Y_add rfl rfl (by omega)) ?_
        refine TL_name 40 (v' := .int .i64 (mx + 1 + (j : Int))) rfl (by congr 1; omega) ?_
        refine TL_y rfl rfl (Y_build rfl rfl) ?_
        refine TL_name 41 (v' := dotV ((i : Int), mx + 1 + (j : Int))) rfl (rfl) ?_
        refine TL_build_slice rfl rfl rfl rfl rfl rfl ?_
        intro b42
        refine TL_osl (k := 1) dotR [((i : Int), mx + 1 + (j : Int))] (Knows.const fun M => ⟨dotC ((i : Int), mx + 1 + (j : Int)), [], ⟨rfl, i64In_mk (by omega), i64In_mk (by omega)⟩, rfl, rfl⟩) rfl (by decide) ?_
        refine TL_freeze_osl ?_
        refine TL_name 42 (v' := .slice (some ⟨b42, 0, none⟩) [(((i : Int), mx + 1 + (j : Int)) : DotD)].length 1) rfl rfl ?_
        refine TL_append rfl rfl rfl rfl rfl slk (by simp only [List.length_cons, List.length_nil]; omega) ?_
        intro A43 c43
        rw [hst]
        refine TL_y rfl rfl (Y_assign rfl) ?_
        refine TL_nil ?_
        refine inB_normal ?_
        refine thenS_normal ?_
        refine T_region_last ?_
        refine TL_y rfl rfl (Y_move rfl) ?_
        refine TL_y rfl rfl (Y_add rfl rfl (by omega)) ?_
        refine TL_name 36 (v' := .int .i64 (mx + ((j + 1 : Nat) : Int))) rfl (by congr 1; omega) ?_
        refine TL_y rfl rfl (Y_assign rfl) ?_
        refine TL_nil ?_
        refine thenS_normal ?_
        exact ⟨⟨j + 1, A43, c43⟩, (by simp only; omega), by simp only; omega, holds_to (sub_cons rfl (sub_cons rfl (sub_cons rfl (sub_cons rfl (sub_cons rfl (sub_cons rfl (sub_nil))))))) GivesTo.g⟩
      · refine T_exit ?_
        refine thenS_exit ?_
        refine thenS_exit ?_
        refine inB_hit ?_
        refine inB_normal ?_
        refine thenS_normal ?_
        have hx : (betP a b i ++ (betO a b i).take j).take most = (betP a b (i + 1)).take most := by rw [betP_succ]; by_cases hj2 : j < (betO a b i).length; (exact take_more (by have h5 := List.length_take (i := most) (l := betP a b i ++ (betO a b i).take j); omega)); rw [List.take_of_length_le (l := betO a b i) (by omega)]
        rw [hx]
        refine T_region_last ?_
        refine TL_y rfl rfl (Y_move rfl) ?_
        refine TL_y rfl rfl (Y_add rfl rfl (by omega)) ?_
        refine TL_name 16 (v' := .int .i64 ((i + 1 : Nat) : Int)) rfl (rfl) ?_
        refine TL_y rfl rfl (Y_assign rfl) ?_
        refine TL_nil ?_
        refine thenS_normal ?_
        exact ⟨⟨i + 1, X2, c2⟩, (by simp only; omega), by simp only; omega, holds_to (sub_cons rfl (sub_cons rfl (sub_cons rfl (sub_cons rfl (sub_cons rfl (sub_nil)))))) GivesTo.g⟩
    · refine T_skip ?_
      refine thenS_normal ?_
      rw [show (betP a b i).take most = (betP a b i ++ (betO a b i).take 0).take most by simp]
      refine T_region ?_
      refine TL_y rfl rfl (Y_move rfl) ?_
      refine TL_name 22 (v' := .int .i64 mx) rfl (by congr 1; omega) ?_
      refine TL_y rfl rfl (Y_assign rfl) ?_
      refine TL_nil ?_
      refine T_block ?_
      refine T_loopK (σ := BvSt) [0, 1, 2, 8] (fun g => g.j ≤ (betO a b i).length) (fun g kv => (7, .slice g.A ((betP a b i ++ (betO a b i).take g.j).take most).length g.c) :: (10, .int .i64 (mx + (g.j : Int))) :: kv) (fun g => osl dotR 31 g.A g.c ((betP a b i ++ (betO a b i).take g.j).take most) :: L) (fun g => (betO a b i).length - g.j) (⟨0, X, cx⟩) rfl (Nat.zero_le _) (GivesTo.g) (sub_cons rfl (sub_cons (by show some (Value.int .i64 mx) = some (Value.int .i64 (mx + ((0 : Nat) : Int))); simp) (sub_cons rfl (sub_cons rfl (sub_cons rfl (sub_cons rfl (sub_nil))))))) ?_
      rintro ⟨j, X2, c2⟩ hj
      dsimp only at hj ⊢
      refine T_seq ?_
      refine T_region ?_
      refine TL_y rfl rfl (Y_move rfl) ?_
      refine TL_y rfl rfl (Y_move rfl) ?_
      refine TL_y rfl rfl (Y_move rfl) ?_
      refine TL_y rfl rfl (Y_index_n (R := intR .i64) (xs := b) rfl rfl rfl hbi) ?_
      refine TL_y rfl rfl (Y_load_n (q := 0) rfl hb.tail hbi rfl) ?_
      refine TL_both 7 34 (j < (betO a b i).length ∧ ((betP a b i ++ (betO a b i).take j).take most).length < most) ?_ ?_
      · refine TL_y rfl rfl (Y_lt rfl rfl) ?_
        refine TL_y rfl rfl (Y_move rfl) ?_
        refine TL_splitd 29 rfl (fun h29 => ?_) (fun h29 => ?_)
        · refine TL_grun rfl rfl ?_
          refine TL_y rfl rfl (Y_move rfl) ?_
          refine TL_grun rfl rfl ?_
          refine TL_y rfl rfl (Y_len rfl) ?_
          refine TL_grun rfl rfl ?_
          refine TL_y rfl rfl (Y_move rfl) ?_
          refine TL_grun rfl rfl ?_
          refine TL_y rfl rfl (Y_lt rfl rfl) ?_
          refine TL_y rfl rfl (Y_pick_t rfl rfl) ?_
          refine TL_chain_end rfl ?_ (by repeat (first | exact sub_refl | refine sub_ext rfl ?_)) GivesTo.g
          exact congrArg Value.bool (decide_eq_decide.2 (by omega))
        · refine TL_gskip rfl rfl rfl rfl ?_
          refine TL_gskip rfl rfl rfl rfl ?_
          refine TL_gskip rfl rfl rfl rfl ?_
          refine TL_gskip rfl rfl rfl rfl ?_
          refine TL_y rfl rfl (Y_pick_f rfl rfl) ?_
          refine TL_chain_end rfl ?_ (by repeat (first | exact sub_refl | refine sub_ext rfl ?_)) GivesTo.g
          exact congrArg Value.bool (decide_eq_false (by omega)).symm
      refine TL_nil ?_
      refine T_if rfl (fun h34 => ?_) (fun h34 => ?_)
      · refine T_skip ?_
        refine thenS_normal ?_
        refine T_seq ?_
        refine T_block ?_
        have hat : (betO a b i)[j]? = some ((i : Int), mx + 1 + (j : Int)) := by rw [betO_at (by rw [← betO_len]; omega), ← hmx]
        have hst : (betP a b i ++ (betO a b i).take j).take most ++ [((i : Int), mx + 1 + (j : Int))] = (betP a b i ++ (betO a b i).take (j + 1)).take most := by rw [take_snoc h34.2, List.append_assoc, ← takeAt hat]
        refine T_region_last ?_
        refine TL_y rfl rfl (Y_move rfl) ?_
        refine TL_y rfl rfl (Y_move rfl) ?_
        refine TL_y rfl rfl (Y_move rfl) ?_
        refine TL_y rfl rfl (Y_add rfl rfl (by omega)) ?_
        refine TL_name 40 (v' := .int .i64 (mx + 1 + (j : Int))) rfl (by congr 1; omega) ?_
        refine TL_y rfl rfl (Y_build rfl rfl) ?_
        refine TL_name 41 (v' := dotV ((i : Int), mx + 1 + (j : Int))) rfl (rfl) ?_
        refine TL_build_slice rfl rfl rfl rfl rfl rfl ?_
        intro b42
        refine TL_osl (k := 1) dotR [((i : Int), mx + 1 + (j : Int))] (Knows.const fun M => ⟨dotC ((i : Int), mx + 1 + (j : Int)), [], ⟨rfl, i64In_mk (by omega), i64In_mk (by omega)⟩, rfl, rfl⟩) rfl (by decide) ?_
        refine TL_freeze_osl ?_
        refine TL_name 42 (v' := .slice (some ⟨b42, 0, none⟩) [(((i : Int), mx + 1 + (j : Int)) : DotD)].length 1) rfl rfl ?_
        refine TL_append rfl rfl rfl rfl rfl slk (by simp only [List.length_cons, List.length_nil]; omega) ?_
        intro A43 c43
        rw [hst]
        refine TL_y rfl rfl (Y_assign rfl) ?_
        refine TL_nil ?_
        refine inB_normal ?_
        refine thenS_normal ?_
        refine T_region_last ?_
        refine TL_y rfl rfl (Y_move rfl) ?_
        refine TL_y rfl rfl (Y_add rfl rfl (by omega)) ?_
        refine TL_name 36 (v' := .int .i64 (mx + ((j + 1 : Nat) : Int))) rfl (by congr 1; omega) ?_
        refine TL_y rfl rfl (Y_assign rfl) ?_
        refine TL_nil ?_
        refine thenS_normal ?_
        exact ⟨⟨j + 1, A43, c43⟩, (by simp only; omega), by simp only; omega, holds_to (sub_cons rfl (sub_cons rfl (sub_cons rfl (sub_cons rfl (sub_cons rfl (sub_cons rfl (sub_nil))))))) GivesTo.g⟩
      · refine T_exit ?_
        refine thenS_exit ?_
        refine thenS_exit ?_
        refine inB_hit ?_
        refine inB_normal ?_
        refine thenS_normal ?_
        have hx : (betP a b i ++ (betO a b i).take j).take most = (betP a b (i + 1)).take most := by rw [betP_succ]; by_cases hj2 : j < (betO a b i).length; (exact take_more (by have h5 := List.length_take (i := most) (l := betP a b i ++ (betO a b i).take j); omega)); rw [List.take_of_length_le (l := betO a b i) (by omega)]
        rw [hx]
        refine T_region_last ?_
        refine TL_y rfl rfl (Y_move rfl) ?_
        refine TL_y rfl rfl (Y_add rfl rfl (by omega)) ?_
        refine TL_name 16 (v' := .int .i64 ((i + 1 : Nat) : Int)) rfl (rfl) ?_
        refine TL_y rfl rfl (Y_assign rfl) ?_
        refine TL_nil ?_
        refine thenS_normal ?_
        exact ⟨⟨i + 1, X2, c2⟩, (by simp only; omega), by simp only; omega, holds_to (sub_cons rfl (sub_cons rfl (sub_cons rfl (sub_cons rfl (sub_cons rfl (sub_nil)))))) GivesTo.g⟩
  · refine T_exit ?_
    refine thenS_exit ?_
    refine thenS_exit ?_
    refine inB_hit ?_
    refine thenS_normal ?_
    refine T_region ?_
    refine TL_y rfl rfl (Y_move rfl) ?_
    refine TL_y rfl rfl (Y_assign rfl) ?_
    refine TL_nil ?_
    refine T_ret ?_
    have hie : i = b.length := by omega
    subst hie
    rw [show betP a b b.length = betL a b from rfl]
    exact RetG_1 (.inl rfl) rfl (ResV.tmp rfl) GivesTo.g (⟨X, cx, rfl, rfl⟩)
end Go.SL
