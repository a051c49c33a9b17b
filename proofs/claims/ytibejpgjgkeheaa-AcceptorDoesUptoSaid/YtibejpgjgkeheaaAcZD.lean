/- What the laws of this claim need, together: the logic, data in memory, the walks of functions. -/
import Derived.Test.YtibejpgjgkeheaaAcZC
set_option linter.unusedVariables false
set_option linter.unusedSimpArgs false
set_option linter.unusedVariables false
set_option linter.unusedSimpArgs false
namespace Go.SL
open Go Go.Proofs
noncomputable def judgeV (s : AccD) (m : MsgD) : Value := .agg #[.string (recA s m), .bool (decide (mineA s m)), .bool (decide (mineA s m ∧ nackA s m))]
set_option maxRecDepth 20000 in
theorem acJudge_bad {L : List HP} {b : Nat} {s : AccD} (m : MsgD) (p : MsgP) (hx : MsgOk m) (hk : MsgK L m p) (hc : cMsg m ≤ 140737488355328) (hm : ¬ mineA s m) : Fn Try.prog 62 #[.pointer (some ⟨b, 0, none⟩), .agg (List.toArray (msgC m p))] (ac b s :: L) (fun v L' => v = judgeV s m ∧ L' = ac b s :: L) := by
  refine Fn_enter Try.func62 rfl rfl rfl rfl ?_
  refine T_region ?_
  refine TL_box rfl rfl rfl ?_
  intro b3
  refine TL_alloc rfl rfl ?_
  intro b4
  refine TL_nil ?_
  refine T_region ?_
  refine TL_y rfl rfl (Y_load_agg rfl rfl) ?_
  refine TL_call rfl rfl (msg_spec m p hx hk.tail.tail.tail hc) ?_
  rintro _ _ ⟨A16, c16, rfl, rfl⟩
  refine TL_y rfl rfl (Y_move rfl) ?_
  refine TL_y rfl rfl (Y_extract rfl rfl) ?_
  refine TL_y rfl rfl (Y_extract rfl rfl) ?_
  refine TL_y rfl rfl (Y_assign rfl) ?_
  refine TL_y rfl rfl (Y_assign rfl) ?_
  refine TL_nil ?_
  refine T_seq ?_
  refine T_region_draw _ [0, 1, 3, 7, 15, 31, 63, 127, 255, 511, 255, 1279, 3327, 7423, 16383, 32767, 65535, 131071, 262143, 524287, 1048575, 2097151, 4194303, 8388607, 16777215, 33554431] [] [(0, true), (1, false), (2, true), (3, true), (4, true), (5, true), (6, true), (7, true), (8, true), (9, true), (10, true), (11, true), (12, true), (13, true), (14, true), (15, true), (16, true), (17, true), (18, true), (19, true), (20, true), (21, true), (22, true), (23, true), (24, true), (25, true)] (by kernel_rfl) (by decide +kernel) (Gives.refl _) ?_
  refine TF_y rfl rfl (Y_move rfl) ?_
  refine TF_anchor rfl ?_
  refine TL_pullk b ?_
  refine TL_call rfl rfl (acMade_spec) ?_
  rintro _ _ ⟨rfl, rfl⟩
  refine TL_name 20 (v' := .bool true) rfl (rfl) ?_
  refine TF_end GivesTo.g ?_
  refine TF_y rfl rfl (Y_not_t rfl) ?_
  refine TF_y rfl rfl (Y_move rfl) ?_
  refine TF_gy rfl rfl rfl rfl (Y_move rfl) ?_
  refine TF_gy rfl rfl rfl rfl (Y_ne rfl rfl) ?_
  refine TF_y rfl rfl (Y_pick_f rfl rfl) ?_
  refine TF_y rfl rfl (Y_move rfl) ?_
  refine TF_splitd 26 rfl (fun h26 => ?_) (fun h26 => ?_)
  · refine TF_gskip rfl rfl rfl rfl rfl ?_
    refine TF_gskip rfl rfl rfl rfl rfl ?_
    refine TF_gskip rfl rfl rfl rfl rfl ?_
    refine TF_gskip rfl rfl rfl rfl rfl ?_
    refine TF_gskip rfl rfl rfl rfl rfl ?_
    refine TF_gskip rfl rfl rfl rfl rfl ?_
    refine TF_gskip rfl rfl rfl rfl rfl ?_
    refine TF_y rfl rfl (Y_pick_t rfl rfl) ?_
    refine TF_y rfl rfl (Y_move rfl) ?_
    refine TF_gskip rfl rfl rfl rfl rfl ?_
    refine TF_gskip rfl rfl rfl rfl rfl ?_
    refine TF_gskip rfl rfl rfl rfl rfl ?_
    refine TF_gskip rfl rfl rfl rfl rfl ?_
    refine TF_gskip_u rfl rfl rfl rfl ?_
    refine TF_gskip_u rfl rfl rfl rfl ?_
    refine TF_gskip_u rfl rfl rfl rfl ?_
    refine TF_gskip rfl rfl rfl rfl rfl ?_
    refine TF_y rfl rfl (Y_pick_t rfl rfl) ?_
    refine TF_nil ?_
    refine T_cond_true rfl ?_
    refine T_region ?_
    refine TL_y rfl rfl (Y_build rfl rfl) ?_
    refine TL_store rfl rfl rfl rfl rfl rfl ?_
    refine TL_nil ?_
    refine T_ret ?_
    refine thenS_ret ?_
    have hj : judgeV s m = .agg #[.string ⟨#[]⟩, .bool false, .bool false] := by unfold judgeV recA; rw [if_neg (fun h => hm h.1), decide_eq_false hm, decide_eq_false (fun h => hm h.1)]
    rw [hj]
    exact RetG_1 (.inl rfl) rfl (ResV.agg rfl rfl) GivesTo.g (⟨rfl, rfl⟩)
  · refine TF_gy rfl rfl rfl rfl (Y_field_addr rfl) ?_
    refine TF_gy rfl rfl rfl rfl (Y_load rfl rfl) ?_
    refine TF_gy rfl rfl rfl rfl (Y_move rfl) ?_
    refine TF_gy rfl rfl rfl rfl (Y_nil_check rfl) ?_
    refine TF_gy rfl rfl rfl rfl (Y_field_addr rfl) ?_
    refine TF_gy rfl rfl rfl rfl (Y_ac (b := b) fun bt => Y_load rfl rfl) ?_
    refine TF_gy rfl rfl rfl rfl (Y_ne rfl rfl) ?_
    refine TF_y rfl rfl (Y_pick_f rfl rfl) ?_
    refine TF_y rfl rfl (Y_move rfl) ?_
    refine TF_splitd 35 rfl (fun h35 => ?_) (fun h35 => ?_)
    · refine TF_gskip rfl rfl rfl rfl rfl ?_
      refine TF_gskip rfl rfl rfl rfl rfl ?_
      refine TF_gskip rfl rfl rfl rfl rfl ?_
      refine TF_gskip rfl rfl rfl rfl rfl ?_
      refine TF_gskip_u rfl rfl rfl rfl ?_
      refine TF_gskip_u rfl rfl rfl rfl ?_
      refine TF_gskip_u rfl rfl rfl rfl ?_
      refine TF_gskip rfl rfl rfl rfl rfl ?_
      refine TF_y rfl rfl (Y_pick_t rfl rfl) ?_
      refine TF_nil ?_
      refine T_cond_true rfl ?_
      refine T_region ?_
      refine TL_y rfl rfl (Y_build rfl rfl) ?_
      refine TL_store rfl rfl rfl rfl rfl rfl ?_
      refine TL_nil ?_
      refine T_ret ?_
      refine thenS_ret ?_
      have hj : judgeV s m = .agg #[.string ⟨#[]⟩, .bool false, .bool false] := by unfold judgeV recA; rw [if_neg (fun h => hm h.1), decide_eq_false hm, decide_eq_false (fun h => hm h.1)]
      rw [hj]
      exact RetG_1 (.inl rfl) rfl (ResV.agg rfl rfl) GivesTo.g (⟨rfl, rfl⟩)
    · refine TF_gy rfl rfl rfl rfl (Y_field_addr rfl) ?_
      refine TF_gy rfl rfl rfl rfl (Y_load rfl rfl) ?_
      refine TF_gy rfl rfl rfl rfl (Y_ne rfl rfl) ?_
      refine TF_name 38 (v' := .bool true) rfl (congrArg Value.bool (decide_eq_true (by unfold mineA at hm; omega))) ?_
      refine TF_gy rfl rfl rfl rfl (Y_move rfl) ?_
      refine TF_gy rfl rfl rfl rfl (Y_field_addr rfl) ?_
      refine TF_gy rfl rfl rfl rfl (Y_load rfl rfl) ?_
      refine TF_gy rfl rfl rfl rfl (Y_ne rfl rfl) ?_
      refine TF_name 42 (v' := .bool true) rfl (congrArg Value.bool (decide_eq_true (by unfold mineA at hm; omega))) ?_
      refine TF_gy rfl rfl rfl rfl (Y_pick_t rfl rfl) ?_
      refine TF_y rfl rfl (Y_pick_f rfl rfl) ?_
      refine TF_nil ?_
      refine T_cond_true rfl ?_
      refine T_region ?_
      refine TL_y rfl rfl (Y_build rfl rfl) ?_
      refine TL_store rfl rfl rfl rfl rfl rfl ?_
      refine TL_nil ?_
      refine T_ret ?_
      refine thenS_ret ?_
      have hj : judgeV s m = .agg #[.string ⟨#[]⟩, .bool false, .bool false] := by unfold judgeV recA; rw [if_neg (fun h => hm h.1), decide_eq_false hm, decide_eq_false (fun h => hm h.1)]
      rw [hj]
      exact RetG_1 (.inl rfl) rfl (ResV.agg rfl rfl) GivesTo.g (⟨rfl, rfl⟩)
set_option maxRecDepth 20000 in
theorem acJudge_prep {L : List HP} {b : Nat} {s : AccD} (m : MsgD) (p : MsgP) (hx : MsgOk m) (hk : MsgK L m p) (hc : cMsg m ≤ 140737488355328) (hm : mineA s m) (h1 : m.kind = 1) : Fn Try.prog 62 #[.pointer (some ⟨b, 0, none⟩), .agg (List.toArray (msgC m p))] (ac b s :: L) (fun v L' => v = judgeV s m ∧ L' = ac b s :: L) := by
  refine Fn_enter Try.func62 rfl rfl rfl rfl ?_
  refine T_region ?_
  refine TL_box rfl rfl rfl ?_
  intro b3
  refine TL_alloc rfl rfl ?_
  intro b4
  refine TL_nil ?_
  refine T_region ?_
  refine TL_y rfl rfl (Y_load_agg rfl rfl) ?_
  refine TL_call rfl rfl (msg_spec m p hx hk.tail.tail.tail hc) ?_
  rintro _ _ ⟨A16, c16, rfl, rfl⟩
  refine TL_y rfl rfl (Y_move rfl) ?_
  refine TL_y rfl rfl (Y_extract rfl rfl) ?_
  refine TL_y rfl rfl (Y_extract rfl rfl) ?_
  refine TL_y rfl rfl (Y_assign rfl) ?_
  refine TL_y rfl rfl (Y_assign rfl) ?_
  refine TL_nil ?_
  refine T_seq ?_
  refine T_region_draw _ [0, 1, 3, 7, 15, 31, 63, 127, 255, 511, 255, 1279, 3327, 7423, 16383, 32767, 65535, 131071, 262143, 524287, 1048575, 2097151, 4194303, 8388607, 16777215, 33554431] [] [(0, true), (1, false), (2, true), (3, true), (4, true), (5, true), (6, true), (7, true), (8, true), (9, true), (10, true), (11, true), (12, true), (13, true), (14, true), (15, true), (16, true), (17, true), (18, true), (19, true), (20, true), (21, true), (22, true), (23, true), (24, true), (25, true)] (by kernel_rfl) (by decide +kernel) (Gives.refl _) ?_
  refine TF_y rfl rfl (Y_move rfl) ?_
  refine TF_anchor rfl ?_
  refine TL_pullk b ?_
  refine TL_call rfl rfl (acMade_spec) ?_
  rintro _ _ ⟨rfl, rfl⟩
  refine TL_name 20 (v' := .bool true) rfl (rfl) ?_
  refine TF_end GivesTo.g ?_
  refine TF_y rfl rfl (Y_not_t rfl) ?_
  refine TF_y rfl rfl (Y_move rfl) ?_
  refine TF_gy rfl rfl rfl rfl (Y_move rfl) ?_
  refine TF_gy rfl rfl rfl rfl (Y_ne rfl rfl) ?_
  refine TF_name 24 (v' := .bool false) rfl (congrArg Value.bool (decide_eq_false (by have := hm.1; omega))) ?_
  refine TF_y rfl rfl (Y_pick_f rfl rfl) ?_
  refine TF_y rfl rfl (Y_move rfl) ?_
  refine TF_gy rfl rfl rfl rfl (Y_field_addr rfl) ?_
  refine TF_gy rfl rfl rfl rfl (Y_load rfl rfl) ?_
  refine TF_gy rfl rfl rfl rfl (Y_move rfl) ?_
  refine TF_gy rfl rfl rfl rfl (Y_nil_check rfl) ?_
  refine TF_gy rfl rfl rfl rfl (Y_field_addr rfl) ?_
  refine TF_gy rfl rfl rfl rfl (Y_ac (b := b) fun bt => Y_load rfl rfl) ?_
  refine TF_gy rfl rfl rfl rfl (Y_ne rfl rfl) ?_
  refine TF_name 33 (v' := .bool false) rfl (congrArg Value.bool (decide_eq_false (by have := hm.2.1; omega))) ?_
  refine TF_y rfl rfl (Y_pick_f rfl rfl) ?_
  refine TF_y rfl rfl (Y_move rfl) ?_
  refine TF_gy rfl rfl rfl rfl (Y_field_addr rfl) ?_
  refine TF_gy rfl rfl rfl rfl (Y_load rfl rfl) ?_
  refine TF_gy rfl rfl rfl rfl (Y_ne rfl rfl) ?_
  refine TF_name 38 (v' := .bool false) rfl (congrArg Value.bool (decide_eq_false (by omega))) ?_
  refine TF_gy rfl rfl rfl rfl (Y_move rfl) ?_
  refine TF_gskip rfl rfl rfl rfl rfl ?_
  refine TF_gskip rfl rfl rfl rfl rfl ?_
  refine TF_gskip rfl rfl rfl rfl rfl ?_
  refine TF_gy rfl rfl rfl rfl (Y_pick_f rfl rfl) ?_
  refine TF_y rfl rfl (Y_pick_f rfl rfl) ?_
  refine TF_nil ?_
  refine T_cond_false rfl ?_
  refine T_skip ?_
  refine thenS_normal ?_
  rcases hg : getM (vmap s.V) m.slot with _ | u
  · refine T_pullk b ?_
    refine T_ac fun bt hi => ?_
    refine T_rd [0, 1, 3, 7, 0, 16, 63, 127, 255, 255, 0, 1535, 4095] (by kernel_rfl) (by decide +kernel) ?_
    refine RD_pair 6 10 (by decide) ?_ ?_
    · refine RD_leaf _ [0, 1, 3, 7, 0, 16, 63, 127, 255, 255, 127, 1535, 4095] [] [(0, true), (1, true), (2, true), (3, true), (4, true), (5, true), (6, false), (7, true), (8, true), (9, true), (10, false), (11, false), (12, true)] (by decide +kernel) (Gives.refl _) ?_
      refine TF_y rfl rfl (Y_move rfl) ?_
      refine TF_y rfl rfl (Y_nil_check rfl) ?_
      refine TF_y rfl rfl (Y_field_addr rfl) ?_
      refine TF_y rfl rfl (Y_load rfl rfl) ?_
      refine TF_y rfl rfl (Y_field_addr rfl) ?_
      refine TF_y rfl rfl (Y_load rfl rfl) ?_
      refine TF_anchor rfl ?_
      refine TL_lookup_okx (R := votedR) (k := m.slot) rfl rfl rfl hx.slot (fun hn => ?_) (fun u p hu hou => absurd hu (by rw [hg]; simp))
      refine TF_end GivesTo.g ?_
      refine TF_y rfl rfl (Y_move rfl) ?_
      refine TF_y rfl rfl (Y_extract rfl rfl) ?_
      refine TF_y rfl rfl (Y_extract rfl rfl) ?_
      refine TF_anchor rfl ?_
      refine TL_alloc rfl rfl ?_
      intro b7
      refine TF_end GivesTo.g ?_
      refine TF_anchor rfl ?_
      refine TL_store rfl rfl rfl rfl rfl rfl ?_
      refine TF_end GivesTo.g ?_
      refine TF_y rfl rfl (Y_assign rfl) ?_
      refine TF_nil ?_
      refine thenS_normal ?_
      refine T_region ?_
      refine TL_y rfl rfl (Y_field_addr rfl) ?_
      refine TL_y rfl rfl (Y_load rfl rfl) ?_
      refine TL_y rfl rfl (Y_eq rfl rfl) ?_
      refine TL_name 58 (v' := .bool false) rfl (congrArg Value.bool (decide_eq_false (by omega))) ?_
      refine TL_y rfl rfl (Y_assign rfl) ?_
      refine TL_nil ?_
      refine T_seq ?_
      refine T_region_draw _ [0, 1, 0, 4, 12, 28, 63, 127, 255, 511, 1023, 2047, 4095, 8191, 16383, 32767, 65535, 131071, 262143, 524287, 1048575, 2097151, 4194303] [] [(0, true), (1, true), (2, true), (3, true), (4, true), (5, true), (6, false), (7, true), (8, true), (9, true), (10, true), (11, true), (12, true), (13, true), (14, true), (15, true), (16, true), (17, true), (18, true), (19, true), (20, true), (21, true), (22, true)] (by kernel_rfl) (by decide +kernel) (Gives.refl _) ?_
      refine TF_y rfl rfl (Y_field_addr rfl) ?_
      refine TF_y rfl rfl (Y_load_agg rfl rfl) ?_
      refine TF_y rfl rfl (Y_move rfl) ?_
      refine TF_y rfl rfl (Y_nil_check rfl) ?_
      refine TF_y rfl rfl (Y_field_addr rfl) ?_
      refine TF_y rfl rfl (Y_load_agg rfl rfl) ?_
      refine TF_anchor rfl ?_
      refine TL_call rfl rfl (compare_spec m.bal s.prom _) ?_
      rintro _ _ ⟨rfl, rfl⟩
      refine TF_end GivesTo.g ?_
      refine TF_y rfl rfl (Y_lt rfl rfl) ?_
      refine TF_y rfl rfl (Y_move rfl) ?_
      refine TF_splitd 67 rfl (fun h67 => ?_) (fun h67 => ?_)
      · refine TF_gskip rfl rfl rfl rfl rfl ?_
        refine TF_gskip rfl rfl rfl rfl rfl ?_
        refine TF_gskip_u rfl rfl rfl rfl ?_
        refine TF_gskip_u rfl rfl rfl rfl ?_
        refine TF_gskip rfl rfl rfl rfl rfl ?_
        refine TF_gskip rfl rfl rfl rfl rfl ?_
        refine TF_gskip_u rfl rfl rfl rfl ?_
        refine TF_gskip_u rfl rfl rfl rfl ?_
        refine TF_gskip_u rfl rfl rfl rfl ?_
        refine TF_gskip_u rfl rfl rfl rfl ?_
        refine TF_gskip_u rfl rfl rfl rfl ?_
        refine TF_gskip_u rfl rfl rfl rfl ?_
        refine TF_gskip rfl rfl rfl rfl rfl ?_
        refine TF_y rfl rfl (Y_pick_t rfl rfl) ?_
        refine TF_nil ?_
        refine T_cond_true rfl ?_
        refine T_region ?_
        refine TL_y rfl rfl (Y_build rfl rfl) ?_
        refine TL_store rfl rfl rfl rfl rfl rfl ?_
        refine TL_nil ?_
        refine T_ret ?_
        refine thenS_ret ?_
        have hn : nackA s m := .inl (by omega)
        have hj : judgeV s m = .agg #[.string ⟨#[]⟩, .bool true, .bool true] := by unfold judgeV recA; rw [if_neg (fun h => h.2.1 hn), decide_eq_true hm, decide_eq_true (And.intro hm hn)]
        rw [hj]
        refine RetQ.gives (ac_close b s hi) ?_
        exact RetG_1 (.inl rfl) rfl (ResV.agg rfl rfl) GivesTo.g (⟨rfl, rfl⟩)
      · refine TF_gy rfl rfl rfl rfl (Y_move rfl) ?_
        refine TF_gy rfl rfl rfl rfl (Y_move rfl) ?_
        refine TF_gskip rfl rfl rfl rfl rfl ?_
        refine TF_gskip rfl rfl rfl rfl rfl ?_
        refine TF_gy rfl rfl rfl rfl (Y_pick_f rfl rfl) ?_
        refine TF_gy rfl rfl rfl rfl (Y_move rfl) ?_
        refine TF_gskip rfl rfl rfl rfl rfl ?_
        refine TF_gskip rfl rfl rfl rfl rfl ?_
        refine TF_gskip rfl rfl rfl rfl rfl ?_
        refine TF_gskip rfl rfl rfl rfl rfl ?_
        refine TF_gskip rfl rfl rfl rfl rfl ?_
        refine TF_gskip rfl rfl rfl rfl rfl ?_
        refine TF_gy rfl rfl rfl rfl (Y_pick_f rfl rfl) ?_
        refine TF_y rfl rfl (Y_pick_f rfl rfl) ?_
        refine TF_nil ?_
        refine T_cond_false rfl ?_
        refine T_skip ?_
        refine thenS_normal ?_
        have hn : ¬ nackA s m := by unfold nackA; omega
        refine T_region_draw _ [0, 1, 3, 7, 0, 16, 63, 127] [] [(0, true), (1, true), (2, true), (3, true), (4, true), (5, true), (6, true), (7, true)] (by kernel_rfl) (by decide +kernel) (Gives.refl _) ?_
        refine TF_y rfl rfl (Y_move rfl) ?_
        refine TF_y rfl rfl (Y_nil_check rfl) ?_
        refine TF_y rfl rfl (Y_field_addr rfl) ?_
        refine TF_y rfl rfl (Y_load_agg rfl rfl) ?_
        refine TF_y rfl rfl (Y_field_addr rfl) ?_
        refine TF_y rfl rfl (Y_load_agg rfl rfl) ?_
        refine TF_y rfl rfl (Y_ne_bal rfl rfl) ?_
        refine TF_name 89 (v' := .bool (decide (s.prom ≠ m.bal))) rfl (by by_cases h : s.prom = m.bal <;> simp [h]) ?_
        refine TF_y rfl rfl (Y_assign rfl) ?_
        refine TF_nil ?_
        refine T_seq ?_
        refine T_region ?_
        refine TL_y rfl rfl (Y_move rfl) ?_
        refine TL_nil ?_
        refine T_cond_false rfl ?_
        refine T_skip ?_
        refine thenS_normal ?_
        refine T_seq ?_
        refine T_region ?_
        refine TL_y rfl rfl (Y_move rfl) ?_
        refine TL_y rfl rfl (Y_not_d rfl) ?_
        refine TL_nil ?_
        refine T_if rfl (fun h148 => ?_) (fun h148 => ?_)
        · refine T_region_last ?_
          refine TL_y rfl rfl (Y_assign rfl) ?_
          refine TL_nil ?_
          refine thenS_normal ?_
          refine T_region ?_
          refine TL_y rfl rfl (Y_move rfl) ?_
          refine TL_name 149 (v' := .slice none ([] : List Int).length 0) rfl (rfl) ?_
          refine TL_y rfl rfl (Y_bytes_strN (A := none) (c := 0) (xs := []) rfl .nil) ?_
          refine TL_y rfl rfl (Y_build rfl rfl) ?_
          refine TL_store rfl rfl rfl rfl rfl rfl ?_
          refine TL_nil ?_
          refine T_ret ?_
          have hch : ¬ chgA s m := by unfold chgA; rintro (h | h); exact h148 h; omega
          have hj : judgeV s m = .agg #[.string (strOfNums []), .bool true, .bool false] := by unfold judgeV recA; rw [if_neg (fun h => hch h.2.2), decide_eq_true hm, decide_eq_false (fun h => hn h.2)]; rfl
          rw [hj]
          refine RetQ.gives (ac_close b s hi) ?_
          exact RetG_1 (.inl rfl) rfl (ResV.agg rfl rfl) GivesTo.g (⟨rfl, rfl⟩)
        · refine T_skip ?_
          refine thenS_normal ?_
          refine T_region ?_
          refine TL_y rfl rfl (Y_move rfl) ?_
          refine TL_y rfl rfl (Y_bytes_strN rfl sln) ?_
          refine TL_y rfl rfl (Y_build rfl rfl) ?_
          refine TL_store rfl rfl rfl rfl rfl rfl ?_
          refine TL_nil ?_
          refine T_ret ?_
          have hch : chgA s m := .inl (Classical.not_not.1 h148)
          have hj : judgeV s m = .agg #[.string (strOfNums (outB (wMsg m ([], false)))), .bool true, .bool false] := by unfold judgeV recA; rw [if_pos ⟨hm, hn, hch⟩, decide_eq_true hm, decide_eq_false (fun h => hn h.2)]
          rw [hj]
          refine RetQ.gives (ac_close b s hi) ?_
          exact RetG_1 (.inl rfl) rfl (ResV.agg rfl rfl) GivesTo.g (⟨rfl, rfl⟩)
    · refine RD_leaf _ [0, 1, 3, 7, 0, 16, 1087, 1151, 1279, 1279, 0, 1535, 4095] [] [(0, true), (1, true), (2, true), (3, true), (4, true), (5, true), (10, false), (6, false), (7, true), (8, true), (9, true), (11, false), (12, true)] (by decide +kernel) (Gives.refl _) ?_
      refine TF_y rfl rfl (Y_move rfl) ?_
      refine TF_y rfl rfl (Y_nil_check rfl) ?_
      refine TF_y rfl rfl (Y_field_addr rfl) ?_
      refine TF_y rfl rfl (Y_load rfl rfl) ?_
      refine TF_y rfl rfl (Y_field_addr rfl) ?_
      refine TF_y rfl rfl (Y_load rfl rfl) ?_
      refine TF_anchor rfl ?_
      refine TL_alloc rfl rfl ?_
      intro b7
      refine TF_end GivesTo.g ?_
      refine TF_anchor rfl ?_
      refine TL_lookup_okx (R := votedR) (k := m.slot) rfl rfl rfl hx.slot (fun hn => ?_) (fun u p hu hou => absurd hu (by rw [hg]; simp))
      refine TF_end GivesTo.g ?_
      refine TF_y rfl rfl (Y_move rfl) ?_
      refine TF_y rfl rfl (Y_extract rfl rfl) ?_
      refine TF_y rfl rfl (Y_extract rfl rfl) ?_
      refine TF_anchor rfl ?_
      refine TL_store rfl rfl rfl rfl rfl rfl ?_
      refine TF_end GivesTo.g ?_
      refine TF_y rfl rfl (Y_assign rfl) ?_
      refine TF_nil ?_
      refine thenS_normal ?_
      refine T_region ?_
      refine TL_y rfl rfl (Y_field_addr rfl) ?_
      refine TL_y rfl rfl (Y_load rfl rfl) ?_
      refine TL_y rfl rfl (Y_eq rfl rfl) ?_
      refine TL_name 58 (v' := .bool false) rfl (congrArg Value.bool (decide_eq_false (by omega))) ?_
      refine TL_y rfl rfl (Y_assign rfl) ?_
      refine TL_nil ?_
      refine T_seq ?_
      refine T_region_draw _ [0, 1, 0, 4, 12, 28, 63, 127, 255, 511, 1023, 2047, 4095, 8191, 16383, 32767, 65535, 131071, 262143, 524287, 1048575, 2097151, 4194303] [] [(0, true), (1, true), (2, true), (3, true), (4, true), (5, true), (6, false), (7, true), (8, true), (9, true), (10, true), (11, true), (12, true), (13, true), (14, true), (15, true), (16, true), (17, true), (18, true), (19, true), (20, true), (21, true), (22, true)] (by kernel_rfl) (by decide +kernel) (Gives.refl _) ?_
      refine TF_y rfl rfl (Y_field_addr rfl) ?_
      refine TF_y rfl rfl (Y_load_agg rfl rfl) ?_
      refine TF_y rfl rfl (Y_move rfl) ?_
      refine TF_y rfl rfl (Y_nil_check rfl) ?_
      refine TF_y rfl rfl (Y_field_addr rfl) ?_
      refine TF_y rfl rfl (Y_load_agg rfl rfl) ?_
      refine TF_anchor rfl ?_
      refine TL_call rfl rfl (compare_spec m.bal s.prom _) ?_
      rintro _ _ ⟨rfl, rfl⟩
      refine TF_end GivesTo.g ?_
      refine TF_y rfl rfl (Y_lt rfl rfl) ?_
      refine TF_y rfl rfl (Y_move rfl) ?_
      refine TF_splitd 67 rfl (fun h67 => ?_) (fun h67 => ?_)
      · refine TF_gskip rfl rfl rfl rfl rfl ?_
        refine TF_gskip rfl rfl rfl rfl rfl ?_
        refine TF_gskip_u rfl rfl rfl rfl ?_
        refine TF_gskip_u rfl rfl rfl rfl ?_
        refine TF_gskip rfl rfl rfl rfl rfl ?_
        refine TF_gskip rfl rfl rfl rfl rfl ?_
        refine TF_gskip_u rfl rfl rfl rfl ?_
        refine TF_gskip_u rfl rfl rfl rfl ?_
        refine TF_gskip_u rfl rfl rfl rfl ?_
        refine TF_gskip_u rfl rfl rfl rfl ?_
        refine TF_gskip_u rfl rfl rfl rfl ?_
        refine TF_gskip_u rfl rfl rfl rfl ?_
        refine TF_gskip rfl rfl rfl rfl rfl ?_
        refine TF_y rfl rfl (Y_pick_t rfl rfl) ?_
        refine TF_nil ?_
        refine T_cond_true rfl ?_
        refine T_region ?_
        refine TL_y rfl rfl (Y_build rfl rfl) ?_
        refine TL_store rfl rfl rfl rfl rfl rfl ?_
        refine TL_nil ?_
        refine T_ret ?_
        refine thenS_ret ?_
        have hn : nackA s m := .inl (by omega)
        have hj : judgeV s m = .agg #[.string ⟨#[]⟩, .bool true, .bool true] := by unfold judgeV recA; rw [if_neg (fun h => h.2.1 hn), decide_eq_true hm, decide_eq_true (And.intro hm hn)]
        rw [hj]
        refine RetQ.gives (ac_close b s hi) ?_
        exact RetG_1 (.inl rfl) rfl (ResV.agg rfl rfl) GivesTo.g (⟨rfl, rfl⟩)
      · refine TF_gy rfl rfl rfl rfl (Y_move rfl) ?_
        refine TF_gy rfl rfl rfl rfl (Y_move rfl) ?_
        refine TF_gskip rfl rfl rfl rfl rfl ?_
        refine TF_gskip rfl rfl rfl rfl rfl ?_
        refine TF_gy rfl rfl rfl rfl (Y_pick_f rfl rfl) ?_
        refine TF_gy rfl rfl rfl rfl (Y_move rfl) ?_
        refine TF_gskip rfl rfl rfl rfl rfl ?_
        refine TF_gskip rfl rfl rfl rfl rfl ?_
        refine TF_gskip rfl rfl rfl rfl rfl ?_
        refine TF_gskip rfl rfl rfl rfl rfl ?_
        refine TF_gskip rfl rfl rfl rfl rfl ?_
        refine TF_gskip rfl rfl rfl rfl rfl ?_
        refine TF_gy rfl rfl rfl rfl (Y_pick_f rfl rfl) ?_
        refine TF_y rfl rfl (Y_pick_f rfl rfl) ?_
        refine TF_nil ?_
        refine T_cond_false rfl ?_
        refine T_skip ?_
        refine thenS_normal ?_
        have hn : ¬ nackA s m := by unfold nackA; omega
        refine T_region_draw _ [0, 1, 3, 7, 0, 16, 63, 127] [] [(0, true), (1, true), (2, true), (3, true), (4, true), (5, true), (6, true), (7, true)] (by kernel_rfl) (by decide +kernel) (Gives.refl _) ?_
        refine TF_y rfl rfl (Y_move rfl) ?_
        refine TF_y rfl rfl (Y_nil_check rfl) ?_
        refine TF_y rfl rfl (Y_field_addr rfl) ?_
        refine TF_y rfl rfl (Y_load_agg rfl rfl) ?_
        refine TF_y rfl rfl (Y_field_addr rfl) ?_
        refine TF_y rfl rfl (Y_load_agg rfl rfl) ?_
        refine TF_y rfl rfl (Y_ne_bal rfl rfl) ?_
        refine TF_name 89 (v' := .bool (decide (s.prom ≠ m.bal))) rfl (by by_cases h : s.prom = m.bal <;> simp [h]) ?_
        refine TF_y rfl rfl (Y_assign rfl) ?_
        refine TF_nil ?_
        refine T_seq ?_
        refine T_region ?_
        refine TL_y rfl rfl (Y_move rfl) ?_
        refine TL_nil ?_
        refine T_cond_false rfl ?_
        refine T_skip ?_
        refine thenS_normal ?_
        refine T_seq ?_
        refine T_region ?_
        refine TL_y rfl rfl (Y_move rfl) ?_
        refine TL_y rfl rfl (Y_not_d rfl) ?_
        refine TL_nil ?_
        refine T_if rfl (fun h148 => ?_) (fun h148 => ?_)
        · refine T_region_last ?_
          refine TL_y rfl rfl (Y_assign rfl) ?_
          refine TL_nil ?_
          refine thenS_normal ?_
          refine T_region ?_
          refine TL_y rfl rfl (Y_move rfl) ?_
          refine TL_name 149 (v' := .slice none ([] : List Int).length 0) rfl (rfl) ?_
          refine TL_y rfl rfl (Y_bytes_strN (A := none) (c := 0) (xs := []) rfl .nil) ?_
          refine TL_y rfl rfl (Y_build rfl rfl) ?_
          refine TL_store rfl rfl rfl rfl rfl rfl ?_
          refine TL_nil ?_
          refine T_ret ?_
          have hch : ¬ chgA s m := by unfold chgA; rintro (h | h); exact h148 h; omega
          have hj : judgeV s m = .agg #[.string (strOfNums []), .bool true, .bool false] := by unfold judgeV recA; rw [if_neg (fun h => hch h.2.2), decide_eq_true hm, decide_eq_false (fun h => hn h.2)]; rfl
          rw [hj]
          refine RetQ.gives (ac_close b s hi) ?_
          exact RetG_1 (.inl rfl) rfl (ResV.agg rfl rfl) GivesTo.g (⟨rfl, rfl⟩)
        · refine T_skip ?_
          refine thenS_normal ?_
          refine T_region ?_
          refine TL_y rfl rfl (Y_move rfl) ?_
          refine TL_y rfl rfl (Y_bytes_strN rfl sln) ?_
          refine TL_y rfl rfl (Y_build rfl rfl) ?_
          refine TL_store rfl rfl rfl rfl rfl rfl ?_
          refine TL_nil ?_
          refine T_ret ?_
          have hch : chgA s m := .inl (Classical.not_not.1 h148)
          have hj : judgeV s m = .agg #[.string (strOfNums (outB (wMsg m ([], false)))), .bool true, .bool false] := by unfold judgeV recA; rw [if_pos ⟨hm, hn, hch⟩, decide_eq_true hm, decide_eq_false (fun h => hn h.2)]
          rw [hj]
          refine RetQ.gives (ac_close b s hi) ?_
          exact RetG_1 (.inl rfl) rfl (ResV.agg rfl rfl) GivesTo.g (⟨rfl, rfl⟩)
  · refine T_pullk b ?_
    refine T_ac fun bt hi => ?_
    refine T_rd [0, 1, 3, 7, 0, 16, 63, 127, 255, 255, 0, 1535, 4095] (by kernel_rfl) (by decide +kernel) ?_
    refine RD_pair 6 10 (by decide) ?_ ?_
    · refine RD_leaf _ [0, 1, 3, 7, 0, 16, 63, 127, 255, 255, 127, 1535, 4095] [] [(0, true), (1, true), (2, true), (3, true), (4, true), (5, true), (6, false), (7, true), (8, true), (9, true), (10, false), (11, false), (12, true)] (by decide +kernel) (Gives.refl _) ?_
      refine TF_y rfl rfl (Y_move rfl) ?_
      refine TF_y rfl rfl (Y_nil_check rfl) ?_
      refine TF_y rfl rfl (Y_field_addr rfl) ?_
      refine TF_y rfl rfl (Y_load rfl rfl) ?_
      refine TF_y rfl rfl (Y_field_addr rfl) ?_
      refine TF_y rfl rfl (Y_load rfl rfl) ?_
      refine TF_anchor rfl ?_
      refine TL_lookup_okx (R := votedR) (k := m.slot) rfl rfl rfl hx.slot (fun hn => absurd hn (by rw [hg]; simp)) (fun u2 p2 hu hou => ?_)
      rw [hg] at hu
      obtain rfl := Option.some.inj hu
      simp only [List.cons_append, List.nil_append]
      refine TF_end GivesTo.g ?_
      refine TF_y rfl rfl (Y_move rfl) ?_
      refine TF_y rfl rfl (Y_extract rfl rfl) ?_
      refine TF_y rfl rfl (Y_extract rfl rfl) ?_
      refine TF_anchor rfl ?_
      refine TL_alloc rfl rfl ?_
      intro b7
      refine TF_end GivesTo.g ?_
      refine TF_anchor rfl ?_
      refine TL_store rfl rfl rfl rfl rfl rfl ?_
      refine TF_end GivesTo.g ?_
      refine TF_y rfl rfl (Y_assign rfl) ?_
      refine TF_nil ?_
      refine thenS_normal ?_
      refine T_region ?_
      refine TL_y rfl rfl (Y_field_addr rfl) ?_
      refine TL_y rfl rfl (Y_load rfl rfl) ?_
      refine TL_y rfl rfl (Y_eq rfl rfl) ?_
      refine TL_name 58 (v' := .bool false) rfl (congrArg Value.bool (decide_eq_false (by omega))) ?_
      refine TL_y rfl rfl (Y_assign rfl) ?_
      refine TL_nil ?_
      refine T_seq ?_
      refine T_region_draw _ [0, 1, 0, 4, 12, 28, 63, 127, 255, 511, 1023, 2047, 4095, 8191, 16383, 32767, 65535, 131071, 262143, 524287, 1048575, 2097151, 4194303] [] [(0, true), (1, true), (2, true), (3, true), (4, true), (5, true), (6, false), (7, true), (8, true), (9, true), (10, true), (11, true), (12, true), (13, true), (14, true), (15, true), (16, true), (17, true), (18, true), (19, true), (20, true), (21, true), (22, true)] (by kernel_rfl) (by decide +kernel) (Gives.refl _) ?_
      refine TF_y rfl rfl (Y_field_addr rfl) ?_
      refine TF_y rfl rfl (Y_load_agg rfl rfl) ?_
      refine TF_y rfl rfl (Y_move rfl) ?_
      refine TF_y rfl rfl (Y_nil_check rfl) ?_
      refine TF_y rfl rfl (Y_field_addr rfl) ?_
      refine TF_y rfl rfl (Y_load_agg rfl rfl) ?_
      refine TF_anchor rfl ?_
      refine TL_call rfl rfl (compare_spec m.bal s.prom _) ?_
      rintro _ _ ⟨rfl, rfl⟩
      refine TF_end GivesTo.g ?_
      refine TF_y rfl rfl (Y_lt rfl rfl) ?_
      refine TF_y rfl rfl (Y_move rfl) ?_
      refine TF_splitd 67 rfl (fun h67 => ?_) (fun h67 => ?_)
      · refine TF_gskip rfl rfl rfl rfl rfl ?_
        refine TF_gskip rfl rfl rfl rfl rfl ?_
        refine TF_gskip_u rfl rfl rfl rfl ?_
        refine TF_gskip_u rfl rfl rfl rfl ?_
        refine TF_gskip rfl rfl rfl rfl rfl ?_
        refine TF_gskip rfl rfl rfl rfl rfl ?_
        refine TF_gskip_u rfl rfl rfl rfl ?_
        refine TF_gskip_u rfl rfl rfl rfl ?_
        refine TF_gskip_u rfl rfl rfl rfl ?_
        refine TF_gskip_u rfl rfl rfl rfl ?_
        refine TF_gskip_u rfl rfl rfl rfl ?_
        refine TF_gskip_u rfl rfl rfl rfl ?_
        refine TF_gskip rfl rfl rfl rfl rfl ?_
        refine TF_y rfl rfl (Y_pick_t rfl rfl) ?_
        refine TF_nil ?_
        refine T_cond_true rfl ?_
        refine T_region ?_
        refine TL_y rfl rfl (Y_build rfl rfl) ?_
        refine TL_store rfl rfl rfl rfl rfl rfl ?_
        refine TL_nil ?_
        refine T_ret ?_
        refine thenS_ret ?_
        have hn : nackA s m := .inl (by omega)
        have hj : judgeV s m = .agg #[.string ⟨#[]⟩, .bool true, .bool true] := by unfold judgeV recA; rw [if_neg (fun h => h.2.1 hn), decide_eq_true hm, decide_eq_true (And.intro hm hn)]
        rw [hj]
        refine RetQ.gives (ac_close b s hi) ?_
        exact RetG_1 (.inl rfl) rfl (ResV.agg rfl rfl) GivesTo.g (⟨rfl, rfl⟩)
      · refine TF_gy rfl rfl rfl rfl (Y_move rfl) ?_
        refine TF_gy rfl rfl rfl rfl (Y_move rfl) ?_
        refine TF_gskip rfl rfl rfl rfl rfl ?_
        refine TF_gskip rfl rfl rfl rfl rfl ?_
        refine TF_gy rfl rfl rfl rfl (Y_pick_f rfl rfl) ?_
        refine TF_gy rfl rfl rfl rfl (Y_move rfl) ?_
        refine TF_gskip rfl rfl rfl rfl rfl ?_
        refine TF_gskip rfl rfl rfl rfl rfl ?_
        refine TF_gskip rfl rfl rfl rfl rfl ?_
        refine TF_gskip rfl rfl rfl rfl rfl ?_
        refine TF_gskip rfl rfl rfl rfl rfl ?_
        refine TF_gskip rfl rfl rfl rfl rfl ?_
        refine TF_gy rfl rfl rfl rfl (Y_pick_f rfl rfl) ?_
        refine TF_y rfl rfl (Y_pick_f rfl rfl) ?_
        refine TF_nil ?_
        refine T_cond_false rfl ?_
        refine T_skip ?_
        refine thenS_normal ?_
        have hn : ¬ nackA s m := by unfold nackA; omega
        refine T_region_draw _ [0, 1, 3, 7, 0, 16, 63, 127] [] [(0, true), (1, true), (2, true), (3, true), (4, true), (5, true), (6, true), (7, true)] (by kernel_rfl) (by decide +kernel) (Gives.refl _) ?_
        refine TF_y rfl rfl (Y_move rfl) ?_
        refine TF_y rfl rfl (Y_nil_check rfl) ?_
        refine TF_y rfl rfl (Y_field_addr rfl) ?_
        refine TF_y rfl rfl (Y_load_agg rfl rfl) ?_
        refine TF_y rfl rfl (Y_field_addr rfl) ?_
        refine TF_y rfl rfl (Y_load_agg rfl rfl) ?_
        refine TF_y rfl rfl (Y_ne_bal rfl rfl) ?_
        refine TF_name 89 (v' := .bool (decide (s.prom ≠ m.bal))) rfl (by by_cases h : s.prom = m.bal <;> simp [h]) ?_
        refine TF_y rfl rfl (Y_assign rfl) ?_
        refine TF_nil ?_
        refine T_seq ?_
        refine T_region ?_
        refine TL_y rfl rfl (Y_move rfl) ?_
        refine TL_nil ?_
        refine T_cond_false rfl ?_
        refine T_skip ?_
        refine thenS_normal ?_
        refine T_seq ?_
        refine T_region ?_
        refine TL_y rfl rfl (Y_move rfl) ?_
        refine TL_y rfl rfl (Y_not_d rfl) ?_
        refine TL_nil ?_
        refine T_if rfl (fun h148 => ?_) (fun h148 => ?_)
        · refine T_region_last ?_
          refine TL_y rfl rfl (Y_assign rfl) ?_
          refine TL_nil ?_
          refine thenS_normal ?_
          refine T_region ?_
          refine TL_y rfl rfl (Y_move rfl) ?_
          refine TL_name 149 (v' := .slice none ([] : List Int).length 0) rfl (rfl) ?_
          refine TL_y rfl rfl (Y_bytes_strN (A := none) (c := 0) (xs := []) rfl .nil) ?_
          refine TL_y rfl rfl (Y_build rfl rfl) ?_
          refine TL_store rfl rfl rfl rfl rfl rfl ?_
          refine TL_nil ?_
          refine T_ret ?_
          have hch : ¬ chgA s m := by unfold chgA; rintro (h | h); exact h148 h; omega
          have hj : judgeV s m = .agg #[.string (strOfNums []), .bool true, .bool false] := by unfold judgeV recA; rw [if_neg (fun h => hch h.2.2), decide_eq_true hm, decide_eq_false (fun h => hn h.2)]; rfl
          rw [hj]
          refine RetQ.gives (ac_close b s hi) ?_
          exact RetG_1 (.inl rfl) rfl (ResV.agg rfl rfl) GivesTo.g (⟨rfl, rfl⟩)
        · refine T_skip ?_
          refine thenS_normal ?_
          refine T_region ?_
          refine TL_y rfl rfl (Y_move rfl) ?_
          refine TL_y rfl rfl (Y_bytes_strN rfl sln) ?_
          refine TL_y rfl rfl (Y_build rfl rfl) ?_
          refine TL_store rfl rfl rfl rfl rfl rfl ?_
          refine TL_nil ?_
          refine T_ret ?_
          have hch : chgA s m := .inl (Classical.not_not.1 h148)
          have hj : judgeV s m = .agg #[.string (strOfNums (outB (wMsg m ([], false)))), .bool true, .bool false] := by unfold judgeV recA; rw [if_pos ⟨hm, hn, hch⟩, decide_eq_true hm, decide_eq_false (fun h => hn h.2)]
          rw [hj]
          refine RetQ.gives (ac_close b s hi) ?_
          exact RetG_1 (.inl rfl) rfl (ResV.agg rfl rfl) GivesTo.g (⟨rfl, rfl⟩)
    · refine RD_leaf _ [0, 1, 3, 7, 0, 16, 1087, 1151, 1279, 1279, 0, 1535, 4095] [] [(0, true), (1, true), (2, true), (3, true), (4, true), (5, true), (10, false), (6, false), (7, true), (8, true), (9, true), (11, false), (12, true)] (by decide +kernel) (Gives.refl _) ?_
      refine TF_y rfl rfl (Y_move rfl) ?_
      refine TF_y rfl rfl (Y_nil_check rfl) ?_
      refine TF_y rfl rfl (Y_field_addr rfl) ?_
      refine TF_y rfl rfl (Y_load rfl rfl) ?_
      refine TF_y rfl rfl (Y_field_addr rfl) ?_
      refine TF_y rfl rfl (Y_load rfl rfl) ?_
      refine TF_anchor rfl ?_
      refine TL_alloc rfl rfl ?_
      intro b7
      refine TF_end GivesTo.g ?_
      refine TF_anchor rfl ?_
      refine TL_lookup_okx (R := votedR) (k := m.slot) rfl rfl rfl hx.slot (fun hn => absurd hn (by rw [hg]; simp)) (fun u2 p2 hu hou => ?_)
      rw [hg] at hu
      obtain rfl := Option.some.inj hu
      simp only [List.cons_append, List.nil_append]
      refine TF_end GivesTo.g ?_
      refine TF_y rfl rfl (Y_move rfl) ?_
      refine TF_y rfl rfl (Y_extract rfl rfl) ?_
      refine TF_y rfl rfl (Y_extract rfl rfl) ?_
      refine TF_anchor rfl ?_
      refine TL_store rfl rfl rfl rfl rfl rfl ?_
      refine TF_end GivesTo.g ?_
      refine TF_y rfl rfl (Y_assign rfl) ?_
      refine TF_nil ?_
      refine thenS_normal ?_
      refine T_region ?_
      refine TL_y rfl rfl (Y_field_addr rfl) ?_
      refine TL_y rfl rfl (Y_load rfl rfl) ?_
      refine TL_y rfl rfl (Y_eq rfl rfl) ?_
      refine TL_name 58 (v' := .bool false) rfl (congrArg Value.bool (decide_eq_false (by omega))) ?_
      refine TL_y rfl rfl (Y_assign rfl) ?_
      refine TL_nil ?_
      refine T_seq ?_
      refine T_region_draw _ [0, 1, 0, 4, 12, 28, 63, 127, 255, 511, 1023, 2047, 4095, 8191, 16383, 32767, 65535, 131071, 262143, 524287, 1048575, 2097151, 4194303] [] [(0, true), (1, true), (2, true), (3, true), (4, true), (5, true), (6, false), (7, true), (8, true), (9, true), (10, true), (11, true), (12, true), (13, true), (14, true), (15, true), (16, true), (17, true), (18, true), (19, true), (20, true), (21, true), (22, true)] (by kernel_rfl) (by decide +kernel) (Gives.refl _) ?_
      refine TF_y rfl rfl (Y_field_addr rfl) ?_
      refine TF_y rfl rfl (Y_load_agg rfl rfl) ?_
      refine TF_y rfl rfl (Y_move rfl) ?_
      refine TF_y rfl rfl (Y_nil_check rfl) ?_
      refine TF_y rfl rfl (Y_field_addr rfl) ?_
      refine TF_y rfl rfl (Y_load_agg rfl rfl) ?_
      refine TF_anchor rfl ?_
      refine TL_call rfl rfl (compare_spec m.bal s.prom _) ?_
      rintro _ _ ⟨rfl, rfl⟩
      refine TF_end GivesTo.g ?_
      refine TF_y rfl rfl (Y_lt rfl rfl) ?_
      refine TF_y rfl rfl (Y_move rfl) ?_
      refine TF_splitd 67 rfl (fun h67 => ?_) (fun h67 => ?_)
      · refine TF_gskip rfl rfl rfl rfl rfl ?_
        refine TF_gskip rfl rfl rfl rfl rfl ?_
        refine TF_gskip_u rfl rfl rfl rfl ?_
        refine TF_gskip_u rfl rfl rfl rfl ?_
        refine TF_gskip rfl rfl rfl rfl rfl ?_
        refine TF_gskip rfl rfl rfl rfl rfl ?_
        refine TF_gskip_u rfl rfl rfl rfl ?_
        refine TF_gskip_u rfl rfl rfl rfl ?_
        refine TF_gskip_u rfl rfl rfl rfl ?_
        refine TF_gskip_u rfl rfl rfl rfl ?_
        refine TF_gskip_u rfl rfl rfl rfl ?_
        refine TF_gskip_u rfl rfl rfl rfl ?_
        refine TF_gskip rfl rfl rfl rfl rfl ?_
        refine TF_y rfl rfl (Y_pick_t rfl rfl) ?_
        refine TF_nil ?_
        refine T_cond_true rfl ?_
        refine T_region ?_
        refine TL_y rfl rfl (Y_build rfl rfl) ?_
        refine TL_store rfl rfl rfl rfl rfl rfl ?_
        refine TL_nil ?_
        refine T_ret ?_
        refine thenS_ret ?_
        have hn : nackA s m := .inl (by omega)
        have hj : judgeV s m = .agg #[.string ⟨#[]⟩, .bool true, .bool true] := by unfold judgeV recA; rw [if_neg (fun h => h.2.1 hn), decide_eq_true hm, decide_eq_true (And.intro hm hn)]
        rw [hj]
        refine RetQ.gives (ac_close b s hi) ?_
        exact RetG_1 (.inl rfl) rfl (ResV.agg rfl rfl) GivesTo.g (⟨rfl, rfl⟩)
      · refine TF_gy rfl rfl rfl rfl (Y_move rfl) ?_
        refine TF_gy rfl rfl rfl rfl (Y_move rfl) ?_
        refine TF_gskip rfl rfl rfl rfl rfl ?_
        refine TF_gskip rfl rfl rfl rfl rfl ?_
        refine TF_gy rfl rfl rfl rfl (Y_pick_f rfl rfl) ?_
        refine TF_gy rfl rfl rfl rfl (Y_move rfl) ?_
        refine TF_gskip rfl rfl rfl rfl rfl ?_
        refine TF_gskip rfl rfl rfl rfl rfl ?_
        refine TF_gskip rfl rfl rfl rfl rfl ?_
        refine TF_gskip rfl rfl rfl rfl rfl ?_
        refine TF_gskip rfl rfl rfl rfl rfl ?_
        refine TF_gskip rfl rfl rfl rfl rfl ?_
        refine TF_gy rfl rfl rfl rfl (Y_pick_f rfl rfl) ?_
        refine TF_y rfl rfl (Y_pick_f rfl rfl) ?_
        refine TF_nil ?_
        refine T_cond_false rfl ?_
        refine T_skip ?_
        refine thenS_normal ?_
        have hn : ¬ nackA s m := by unfold nackA; omega
        refine T_region_draw _ [0, 1, 3, 7, 0, 16, 63, 127] [] [(0, true), (1, true), (2, true), (3, true), (4, true), (5, true), (6, true), (7, true)] (by kernel_rfl) (by decide +kernel) (Gives.refl _) ?_
        refine TF_y rfl rfl (Y_move rfl) ?_
        refine TF_y rfl rfl (Y_nil_check rfl) ?_
        refine TF_y rfl rfl (Y_field_addr rfl) ?_
        refine TF_y rfl rfl (Y_load_agg rfl rfl) ?_
        refine TF_y rfl rfl (Y_field_addr rfl) ?_
        refine TF_y rfl rfl (Y_load_agg rfl rfl) ?_
        refine TF_y rfl rfl (Y_ne_bal rfl rfl) ?_
        refine TF_name 89 (v' := .bool (decide (s.prom ≠ m.bal))) rfl (by by_cases h : s.prom = m.bal <;> simp [h]) ?_
        refine TF_y rfl rfl (Y_assign rfl) ?_
        refine TF_nil ?_
        refine T_seq ?_
        refine T_region ?_
        refine TL_y rfl rfl (Y_move rfl) ?_
        refine TL_nil ?_
        refine T_cond_false rfl ?_
        refine T_skip ?_
        refine thenS_normal ?_
        refine T_seq ?_
        refine T_region ?_
        refine TL_y rfl rfl (Y_move rfl) ?_
        refine TL_y rfl rfl (Y_not_d rfl) ?_
        refine TL_nil ?_
        refine T_if rfl (fun h148 => ?_) (fun h148 => ?_)
        · refine T_region_last ?_
          refine TL_y rfl rfl (Y_assign rfl) ?_
          refine TL_nil ?_
          refine thenS_normal ?_
          refine T_region ?_
          refine TL_y rfl rfl (Y_move rfl) ?_
          refine TL_name 149 (v' := .slice none ([] : List Int).length 0) rfl (rfl) ?_
          refine TL_y rfl rfl (Y_bytes_strN (A := none) (c := 0) (xs := []) rfl .nil) ?_
          refine TL_y rfl rfl (Y_build rfl rfl) ?_
          refine TL_store rfl rfl rfl rfl rfl rfl ?_
          refine TL_nil ?_
          refine T_ret ?_
          have hch : ¬ chgA s m := by unfold chgA; rintro (h | h); exact h148 h; omega
          have hj : judgeV s m = .agg #[.string (strOfNums []), .bool true, .bool false] := by unfold judgeV recA; rw [if_neg (fun h => hch h.2.2), decide_eq_true hm, decide_eq_false (fun h => hn h.2)]; rfl
          rw [hj]
          refine RetQ.gives (ac_close b s hi) ?_
          exact RetG_1 (.inl rfl) rfl (ResV.agg rfl rfl) GivesTo.g (⟨rfl, rfl⟩)
        · refine T_skip ?_
          refine thenS_normal ?_
          refine T_region ?_
          refine TL_y rfl rfl (Y_move rfl) ?_
          refine TL_y rfl rfl (Y_bytes_strN rfl sln) ?_
          refine TL_y rfl rfl (Y_build rfl rfl) ?_
          refine TL_store rfl rfl rfl rfl rfl rfl ?_
          refine TL_nil ?_
          refine T_ret ?_
          have hch : chgA s m := .inl (Classical.not_not.1 h148)
          have hj : judgeV s m = .agg #[.string (strOfNums (outB (wMsg m ([], false)))), .bool true, .bool false] := by unfold judgeV recA; rw [if_pos ⟨hm, hn, hch⟩, decide_eq_true hm, decide_eq_false (fun h => hn h.2)]
          rw [hj]
          refine RetQ.gives (ac_close b s hi) ?_
          exact RetG_1 (.inl rfl) rfl (ResV.agg rfl rfl) GivesTo.g (⟨rfl, rfl⟩)
end Go.SL
set_option linter.unusedVariables false
set_option linter.unusedSimpArgs false
namespace Go.SL
open Go Go.Proofs
set_option maxRecDepth 20000 in
theorem acJudge_accN {L : List HP} {b : Nat} {s : AccD} (m : MsgD) (p : MsgP) (hx : MsgOk m) (hk : MsgK L m p) (hc : cMsg m ≤ 140737488355328) (hm : mineA s m) (h3 : m.kind = 3) (hg : getM (vmap s.V) m.slot = none) : Fn Try.prog 62 #[.pointer (some ⟨b, 0, none⟩), .agg (List.toArray (msgC m p))] (ac b s :: L) (fun v L' => v = judgeV s m ∧ L' = ac b s :: L) := by
  refine Fn_enter Try.func62 rfl rfl rfl rfl ?_
  refine T_region ?_
  refine TL_box rfl rfl rfl ?_
  intro b3
  refine TL_alloc rfl rfl ?_
  intro b4
  refine TL_nil ?_
  refine T_region ?_
  refine TL_y rfl rfl (Y_load_agg rfl rfl) ?_
  refine TL_call rfl rfl (msg_spec m p hx hk.tail.tail.tail hc) ?_
  rintro _ _ ⟨A16, c16, rfl, rfl⟩
  refine TL_y rfl rfl (Y_move rfl) ?_
  refine TL_y rfl rfl (Y_extract rfl rfl) ?_
  refine TL_y rfl rfl (Y_extract rfl rfl) ?_
  refine TL_y rfl rfl (Y_assign rfl) ?_
  refine TL_y rfl rfl (Y_assign rfl) ?_
  refine TL_nil ?_
  refine T_seq ?_
  refine T_region_draw _ [0, 1, 3, 7, 15, 31, 63, 127, 255, 511, 255, 1279, 3327, 7423, 16383, 32767, 65535, 131071, 262143, 524287, 1048575, 2097151, 4194303, 8388607, 16777215, 33554431] [] [(0, true), (1, false), (2, true), (3, true), (4, true), (5, true), (6, true), (7, true), (8, true), (9, true), (10, true), (11, true), (12, true), (13, true), (14, true), (15, true), (16, true), (17, true), (18, true), (19, true), (20, true), (21, true), (22, true), (23, true), (24, true), (25, true)] (by kernel_rfl) (by decide +kernel) (Gives.refl _) ?_
  refine TF_y rfl rfl (Y_move rfl) ?_
  refine TF_anchor rfl ?_
  refine TL_pullk b ?_
  refine TL_call rfl rfl (acMade_spec) ?_
  rintro _ _ ⟨rfl, rfl⟩
  refine TL_name 20 (v' := .bool true) rfl (rfl) ?_
  refine TF_end GivesTo.g ?_
  refine TF_y rfl rfl (Y_not_t rfl) ?_
  refine TF_y rfl rfl (Y_move rfl) ?_
  refine TF_gy rfl rfl rfl rfl (Y_move rfl) ?_
  refine TF_gy rfl rfl rfl rfl (Y_ne rfl rfl) ?_
  refine TF_name 24 (v' := .bool false) rfl (congrArg Value.bool (decide_eq_false (by have := hm.1; omega))) ?_
  refine TF_y rfl rfl (Y_pick_f rfl rfl) ?_
  refine TF_y rfl rfl (Y_move rfl) ?_
  refine TF_gy rfl rfl rfl rfl (Y_field_addr rfl) ?_
  refine TF_gy rfl rfl rfl rfl (Y_load rfl rfl) ?_
  refine TF_gy rfl rfl rfl rfl (Y_move rfl) ?_
  refine TF_gy rfl rfl rfl rfl (Y_nil_check rfl) ?_
  refine TF_gy rfl rfl rfl rfl (Y_field_addr rfl) ?_
  refine TF_gy rfl rfl rfl rfl (Y_ac (b := b) fun bt => Y_load rfl rfl) ?_
  refine TF_gy rfl rfl rfl rfl (Y_ne rfl rfl) ?_
  refine TF_name 33 (v' := .bool false) rfl (congrArg Value.bool (decide_eq_false (by have := hm.2.1; omega))) ?_
  refine TF_y rfl rfl (Y_pick_f rfl rfl) ?_
  refine TF_y rfl rfl (Y_move rfl) ?_
  refine TF_gy rfl rfl rfl rfl (Y_field_addr rfl) ?_
  refine TF_gy rfl rfl rfl rfl (Y_load rfl rfl) ?_
  refine TF_gy rfl rfl rfl rfl (Y_ne rfl rfl) ?_
  refine TF_name 38 (v' := .bool true) rfl (congrArg Value.bool (decide_eq_true (by omega))) ?_
  refine TF_gy rfl rfl rfl rfl (Y_move rfl) ?_
  refine TF_gy rfl rfl rfl rfl (Y_field_addr rfl) ?_
  refine TF_gy rfl rfl rfl rfl (Y_load rfl rfl) ?_
  refine TF_gy rfl rfl rfl rfl (Y_ne rfl rfl) ?_
  refine TF_name 42 (v' := .bool false) rfl (congrArg Value.bool (decide_eq_false (by omega))) ?_
  refine TF_gy rfl rfl rfl rfl (Y_pick_t rfl rfl) ?_
  refine TF_y rfl rfl (Y_pick_f rfl rfl) ?_
  refine TF_nil ?_
  refine T_cond_false rfl ?_
  refine T_skip ?_
  refine thenS_normal ?_
  refine T_pullk b ?_
  refine T_ac fun bt hi => ?_
  refine T_rd [0, 1, 3, 7, 0, 16, 63, 127, 255, 255, 0, 1535, 4095] (by kernel_rfl) (by decide +kernel) ?_
  refine RD_pair 6 10 (by decide) ?_ ?_
  · refine RD_leaf _ [0, 1, 3, 7, 0, 16, 63, 127, 255, 255, 127, 1535, 4095] [] [(0, true), (1, true), (2, true), (3, true), (4, true), (5, true), (6, false), (7, true), (8, true), (9, true), (10, false), (11, false), (12, true)] (by decide +kernel) (Gives.refl _) ?_
    refine TF_y rfl rfl (Y_move rfl) ?_
    refine TF_y rfl rfl (Y_nil_check rfl) ?_
    refine TF_y rfl rfl (Y_field_addr rfl) ?_
    refine TF_y rfl rfl (Y_load rfl rfl) ?_
    refine TF_y rfl rfl (Y_field_addr rfl) ?_
    refine TF_y rfl rfl (Y_load rfl rfl) ?_
    refine TF_anchor rfl ?_
    refine TL_lookup_okx (R := votedR) (k := m.slot) rfl rfl rfl hx.slot (fun hn => ?_) (fun u p hu hou => absurd hu (by rw [hg]; simp))
    refine TF_end GivesTo.g ?_
    refine TF_y rfl rfl (Y_move rfl) ?_
    refine TF_y rfl rfl (Y_extract rfl rfl) ?_
    refine TF_y rfl rfl (Y_extract rfl rfl) ?_
    refine TF_name 55 (v' := .bool false) rfl (rfl) ?_
    refine TF_anchor rfl ?_
    refine TL_alloc rfl rfl ?_
    intro b7
    refine TF_end GivesTo.g ?_
    refine TF_anchor rfl ?_
    refine TL_store rfl rfl rfl rfl rfl rfl ?_
    refine TF_end GivesTo.g ?_
    refine TF_y rfl rfl (Y_assign rfl) ?_
    refine TF_nil ?_
    refine thenS_normal ?_
    refine T_region ?_
    refine TL_y rfl rfl (Y_field_addr rfl) ?_
    refine TL_y rfl rfl (Y_load rfl rfl) ?_
    refine TL_y rfl rfl (Y_eq rfl rfl) ?_
    refine TL_name 58 (v' := .bool true) rfl (congrArg Value.bool (decide_eq_true h3)) ?_
    refine TL_y rfl rfl (Y_assign rfl) ?_
    refine TL_nil ?_
    refine T_seq ?_
    refine T_region_draw _ [0, 1, 0, 4, 12, 28, 63, 127, 255, 511, 1023, 2047, 4095, 8191, 16383, 32767, 65535, 131071, 262143, 524287, 1048575, 2097151, 4194303] [] [(0, true), (1, true), (2, true), (3, true), (4, true), (5, true), (6, false), (7, true), (8, true), (9, true), (10, true), (11, true), (12, true), (13, true), (14, true), (15, true), (16, true), (17, true), (18, true), (19, true), (20, true), (21, true), (22, true)] (by kernel_rfl) (by decide +kernel) (Gives.refl _) ?_
    refine TF_y rfl rfl (Y_field_addr rfl) ?_
    refine TF_y rfl rfl (Y_load_agg rfl rfl) ?_
    refine TF_y rfl rfl (Y_move rfl) ?_
    refine TF_y rfl rfl (Y_nil_check rfl) ?_
    refine TF_y rfl rfl (Y_field_addr rfl) ?_
    refine TF_y rfl rfl (Y_load_agg rfl rfl) ?_
    refine TF_anchor rfl ?_
    refine TL_call rfl rfl (compare_spec m.bal s.prom _) ?_
    rintro _ _ ⟨rfl, rfl⟩
    refine TF_end GivesTo.g ?_
    refine TF_y rfl rfl (Y_lt rfl rfl) ?_
    refine TF_y rfl rfl (Y_move rfl) ?_
    refine TF_splitd 67 rfl (fun h67 => ?_) (fun h67 => ?_)
    · refine TF_gskip rfl rfl rfl rfl rfl ?_
      refine TF_gskip rfl rfl rfl rfl rfl ?_
      refine TF_gskip_u rfl rfl rfl rfl ?_
      refine TF_gskip_u rfl rfl rfl rfl ?_
      refine TF_gskip rfl rfl rfl rfl rfl ?_
      refine TF_gskip rfl rfl rfl rfl rfl ?_
      refine TF_gskip_u rfl rfl rfl rfl ?_
      refine TF_gskip_u rfl rfl rfl rfl ?_
      refine TF_gskip_u rfl rfl rfl rfl ?_
      refine TF_gskip_u rfl rfl rfl rfl ?_
      refine TF_gskip_u rfl rfl rfl rfl ?_
      refine TF_gskip_u rfl rfl rfl rfl ?_
      refine TF_gskip rfl rfl rfl rfl rfl ?_
      refine TF_y rfl rfl (Y_pick_t rfl rfl) ?_
      refine TF_nil ?_
      refine T_cond_true rfl ?_
      refine T_region ?_
      refine TL_y rfl rfl (Y_build rfl rfl) ?_
      refine TL_store rfl rfl rfl rfl rfl rfl ?_
      refine TL_nil ?_
      refine T_ret ?_
      refine thenS_ret ?_
      have hn : nackA s m := by unfold nackA; rw [hg]; first | (left; omega) | (right; exact ⟨h3, rfl, by omega⟩)
      have hj : judgeV s m = .agg #[.string ⟨#[]⟩, .bool true, .bool true] := by unfold judgeV recA; rw [if_neg (fun h => h.2.1 hn), decide_eq_true hm, decide_eq_true (And.intro hm hn)]
      rw [hj]
      refine RetQ.gives (ac_close b s hi) ?_
      exact RetG_1 (.inl rfl) rfl (ResV.agg rfl rfl) GivesTo.g (⟨rfl, rfl⟩)
    · refine TF_gy rfl rfl rfl rfl (Y_move rfl) ?_
      refine TF_gy rfl rfl rfl rfl (Y_move rfl) ?_
      refine TF_gy rfl rfl rfl rfl (Y_move rfl) ?_
      refine TF_gy rfl rfl rfl rfl (Y_not_f rfl) ?_
      refine TF_gy rfl rfl rfl rfl (Y_pick_t rfl rfl) ?_
      refine TF_gy rfl rfl rfl rfl (Y_move rfl) ?_
      refine TF_gy rfl rfl rfl rfl (Y_move rfl) ?_
      refine TF_gy rfl rfl rfl rfl (Y_nil_check rfl) ?_
      refine TF_gy rfl rfl rfl rfl (Y_field_addr rfl) ?_
      refine TF_gy rfl rfl rfl rfl (Y_load rfl rfl) ?_
      refine TF_gy rfl rfl rfl rfl (Y_len_map rfl ) ?_
      refine TF_name 78 (v' := .int .i64 (s.V.length : Int)) rfl (by simp) ?_
      refine TF_gy rfl rfl rfl rfl (Y_ge rfl rfl) ?_
      refine TF_gy rfl rfl rfl rfl (Y_pick_t rfl rfl) ?_
      refine TF_y rfl rfl (Y_pick_f rfl rfl) ?_
      refine TF_nil ?_
      refine T_if rfl (fun h81 => ?_) (fun h81 => ?_)
      · refine T_region ?_
        refine TL_y rfl rfl (Y_build rfl rfl) ?_
        refine TL_store rfl rfl rfl rfl rfl rfl ?_
        refine TL_nil ?_
        refine T_ret ?_
        refine thenS_ret ?_
        have hn : nackA s m := by unfold nackA; rw [hg]; first | (left; omega) | (right; exact ⟨h3, rfl, by omega⟩)
        have hj : judgeV s m = .agg #[.string ⟨#[]⟩, .bool true, .bool true] := by unfold judgeV recA; rw [if_neg (fun h => h.2.1 hn), decide_eq_true hm, decide_eq_true (And.intro hm hn)]
        rw [hj]
        refine RetQ.gives (ac_close b s hi) ?_
        exact RetG_1 (.inl rfl) rfl (ResV.agg rfl rfl) GivesTo.g (⟨rfl, rfl⟩)
      · refine T_skip ?_
        refine thenS_normal ?_
        have hn : ¬ nackA s m := by unfold nackA; rintro (h | ⟨_, _, h⟩) <;> omega
        refine T_region_draw _ [0, 1, 3, 7, 0, 16, 63, 127] [] [(0, true), (1, true), (2, true), (3, true), (4, true), (5, true), (6, true), (7, true)] (by kernel_rfl) (by decide +kernel) (Gives.refl _) ?_
        refine TF_y rfl rfl (Y_move rfl) ?_
        refine TF_y rfl rfl (Y_nil_check rfl) ?_
        refine TF_y rfl rfl (Y_field_addr rfl) ?_
        refine TF_y rfl rfl (Y_load_agg rfl rfl) ?_
        refine TF_y rfl rfl (Y_field_addr rfl) ?_
        refine TF_y rfl rfl (Y_load_agg rfl rfl) ?_
        refine TF_y rfl rfl (Y_ne_bal rfl rfl) ?_
        refine TF_name 89 (v' := .bool (decide (s.prom ≠ m.bal))) rfl (by by_cases h : s.prom = m.bal <;> simp [h]) ?_
        refine TF_y rfl rfl (Y_assign rfl) ?_
        refine TF_nil ?_
        refine T_seq ?_
        refine T_region ?_
        refine TL_y rfl rfl (Y_move rfl) ?_
        refine TL_nil ?_
        refine T_cond_true rfl ?_
        refine T_rd [0, 1, 3, 0, 8, 24, 0, 0, 199, 511] (by kernel_rfl) (by decide +kernel) ?_
        refine RD_pair 6 7 (by decide) ?_ ?_
        · refine RD_leaf _ [0, 1, 3, 0, 8, 24, 0, 64, 199, 511] [] [(0, true), (1, true), (2, true), (3, true), (4, true), (5, true), (6, false), (7, false), (8, false), (9, false)] (by decide +kernel) (Gives.refl _) ?_
          refine TF_y rfl rfl (Y_field_addr rfl) ?_
          refine TF_y rfl rfl (Y_field_addr rfl) ?_
          refine TF_y rfl rfl (Y_load_agg rfl rfl) ?_
          refine TF_y rfl rfl (Y_field_addr rfl) ?_
          refine TF_y rfl rfl (Y_field_addr rfl) ?_
          refine TF_y rfl rfl (Y_load_agg rfl rfl) ?_
          refine TF_anchor rfl ?_
          refine TL_alloc rfl rfl ?_
          intro b11
          refine TF_end GivesTo.g ?_
          refine TF_anchor rfl ?_
          refine TL_alloc rfl rfl ?_
          intro b12
          refine TF_end GivesTo.g ?_
          refine TF_anchor rfl ?_
          refine TL_store rfl rfl rfl rfl rfl rfl ?_
          refine TF_end GivesTo.g ?_
          refine TF_anchor rfl ?_
          refine TL_store rfl rfl rfl rfl rfl rfl ?_
          refine TF_end GivesTo.g ?_
          refine TF_nil ?_
          refine thenS_normal ?_
          refine T_region ?_
          refine TL_y rfl rfl (Y_move rfl) ?_
          refine TL_y rfl rfl (Y_move rfl) ?_
          refine TL_gskip rfl rfl rfl rfl ?_
          refine TL_gskip rfl rfl rfl rfl ?_
          refine TL_gskip rfl rfl rfl rfl ?_
          refine TL_gskip rfl rfl rfl rfl ?_
          refine TL_gskip rfl rfl rfl rfl ?_
          refine TL_y rfl rfl (Y_pick_f rfl rfl) ?_
          refine TL_y rfl rfl (Y_move rfl) ?_
          refine TL_gskip rfl rfl rfl rfl ?_
          refine TL_gskip rfl rfl rfl rfl ?_
          refine TL_gskip rfl rfl rfl rfl ?_
          refine TL_gskip rfl rfl rfl rfl ?_
          refine TL_gskip rfl rfl rfl rfl ?_
          refine TL_gskip rfl rfl rfl rfl ?_
          refine TL_gskip rfl rfl rfl rfl ?_
          refine TL_y rfl rfl (Y_pick_f rfl rfl) ?_
          refine TL_y rfl rfl (Y_move rfl) ?_
          refine TL_gskip rfl rfl rfl rfl ?_
          refine TL_gskip rfl rfl rfl rfl ?_
          refine TL_gskip rfl rfl rfl rfl ?_
          refine TL_gskip rfl rfl rfl rfl ?_
          refine TL_gskip rfl rfl rfl rfl ?_
          refine TL_y rfl rfl (Y_pick_f rfl rfl) ?_
          refine TL_y rfl rfl (Y_move rfl) ?_
          refine TL_gskip rfl rfl rfl rfl ?_
          refine TL_gskip rfl rfl rfl rfl ?_
          refine TL_gskip rfl rfl rfl rfl ?_
          refine TL_gskip rfl rfl rfl rfl ?_
          refine TL_gskip rfl rfl rfl rfl ?_
          refine TL_y rfl rfl (Y_pick_f rfl rfl) ?_
          refine TL_y rfl rfl (Y_move rfl) ?_
          refine TL_gskip rfl rfl rfl rfl ?_
          refine TL_gskip rfl rfl rfl rfl ?_
          refine TL_gskip rfl rfl rfl rfl ?_
          refine TL_gskip rfl rfl rfl rfl ?_
          refine TL_gskip rfl rfl rfl rfl ?_
          refine TL_y rfl rfl (Y_pick_f rfl rfl) ?_
          refine TL_y rfl rfl (Y_move rfl) ?_
          refine TL_gskip rfl rfl rfl rfl ?_
          refine TL_gskip rfl rfl rfl rfl ?_
          refine TL_gskip rfl rfl rfl rfl ?_
          refine TL_gskip rfl rfl rfl rfl ?_
          refine TL_gskip rfl rfl rfl rfl ?_
          refine TL_y rfl rfl (Y_pick_f rfl rfl) ?_
          refine TL_y rfl rfl (Y_assign rfl) ?_
          refine TL_nil ?_
          refine T_region_last ?_
          refine TL_y rfl rfl (Y_move rfl) ?_
          refine TL_y rfl rfl (Y_move rfl) ?_
          refine TL_splitd 143 rfl (fun h143 => ?_) (fun h143 => ?_)
          · refine TL_gskip rfl rfl rfl rfl ?_
            refine TL_gskip rfl rfl rfl rfl ?_
            refine TL_y rfl rfl (Y_pick_t rfl rfl) ?_
            refine TL_y rfl rfl (Y_assign rfl) ?_
            refine TL_nil ?_
            refine thenS_normal ?_
            refine T_seq ?_
            refine T_region ?_
            refine TL_y rfl rfl (Y_move rfl) ?_
            refine TL_y rfl rfl (Y_not_t rfl) ?_
            refine TL_nil ?_
            refine T_cond_false rfl ?_
            refine T_skip ?_
            refine thenS_normal ?_
            refine T_region ?_
            refine TL_y rfl rfl (Y_move rfl) ?_
            refine TL_y rfl rfl (Y_bytes_strN rfl sln) ?_
            refine TL_y rfl rfl (Y_build rfl rfl) ?_
            refine TL_store rfl rfl rfl rfl rfl rfl ?_
            refine TL_nil ?_
            refine T_ret ?_
            have hch : chgA s m := .inr ⟨h3, by rw [hg]; simp⟩
            have hj : judgeV s m = .agg #[.string (strOfNums (outB (wMsg m ([], false)))), .bool true, .bool false] := by unfold judgeV recA; rw [if_pos ⟨hm, hn, hch⟩, decide_eq_true hm, decide_eq_false (fun h => hn h.2)]
            rw [hj]
            refine RetQ.gives (ac_close b s hi) ?_
            exact RetG_1 (.inl rfl) rfl (ResV.agg rfl rfl) GivesTo.g (⟨rfl, rfl⟩)
          · refine TL_grun rfl rfl ?_
            refine TL_y rfl rfl (Y_move rfl) ?_
            refine TL_grun rfl rfl ?_
            refine TL_y rfl rfl (Y_not_f rfl) ?_
            refine TL_y rfl rfl (Y_pick_f rfl rfl) ?_
            refine TL_y rfl rfl (Y_assign rfl) ?_
            refine TL_nil ?_
            refine thenS_normal ?_
            refine T_seq ?_
            refine T_region ?_
            refine TL_y rfl rfl (Y_move rfl) ?_
            refine TL_y rfl rfl (Y_not_t rfl) ?_
            refine TL_nil ?_
            refine T_cond_false rfl ?_
            refine T_skip ?_
            refine thenS_normal ?_
            refine T_region ?_
            refine TL_y rfl rfl (Y_move rfl) ?_
            refine TL_y rfl rfl (Y_bytes_strN rfl sln) ?_
            refine TL_y rfl rfl (Y_build rfl rfl) ?_
            refine TL_store rfl rfl rfl rfl rfl rfl ?_
            refine TL_nil ?_
            refine T_ret ?_
            have hch : chgA s m := .inr ⟨h3, by rw [hg]; simp⟩
            have hj : judgeV s m = .agg #[.string (strOfNums (outB (wMsg m ([], false)))), .bool true, .bool false] := by unfold judgeV recA; rw [if_pos ⟨hm, hn, hch⟩, decide_eq_true hm, decide_eq_false (fun h => hn h.2)]
            rw [hj]
            refine RetQ.gives (ac_close b s hi) ?_
            exact RetG_1 (.inl rfl) rfl (ResV.agg rfl rfl) GivesTo.g (⟨rfl, rfl⟩)
        · refine RD_leaf _ [0, 1, 3, 0, 8, 24, 128, 0, 199, 511] [] [(0, true), (1, true), (2, true), (3, true), (4, true), (5, true), (7, false), (6, false), (8, false), (9, false)] (by decide +kernel) (Gives.refl _) ?_
          refine TF_y rfl rfl (Y_field_addr rfl) ?_
          refine TF_y rfl rfl (Y_field_addr rfl) ?_
          refine TF_y rfl rfl (Y_load_agg rfl rfl) ?_
          refine TF_y rfl rfl (Y_field_addr rfl) ?_
          refine TF_y rfl rfl (Y_field_addr rfl) ?_
          refine TF_y rfl rfl (Y_load_agg rfl rfl) ?_
          refine TF_anchor rfl ?_
          refine TL_alloc rfl rfl ?_
          intro b12
          refine TF_end GivesTo.g ?_
          refine TF_anchor rfl ?_
          refine TL_alloc rfl rfl ?_
          intro b11
          refine TF_end GivesTo.g ?_
          refine TF_anchor rfl ?_
          refine TL_store rfl rfl rfl rfl rfl rfl ?_
          refine TF_end GivesTo.g ?_
          refine TF_anchor rfl ?_
          refine TL_store rfl rfl rfl rfl rfl rfl ?_
          refine TF_end GivesTo.g ?_
          refine TF_nil ?_
          refine thenS_normal ?_
          refine T_region ?_
          refine TL_y rfl rfl (Y_move rfl) ?_
          refine TL_y rfl rfl (Y_move rfl) ?_
          refine TL_gskip rfl rfl rfl rfl ?_
          refine TL_gskip rfl rfl rfl rfl ?_
          refine TL_gskip rfl rfl rfl rfl ?_
          refine TL_gskip rfl rfl rfl rfl ?_
          refine TL_gskip rfl rfl rfl rfl ?_
          refine TL_y rfl rfl (Y_pick_f rfl rfl) ?_
          refine TL_y rfl rfl (Y_move rfl) ?_
          refine TL_gskip rfl rfl rfl rfl ?_
          refine TL_gskip rfl rfl rfl rfl ?_
          refine TL_gskip rfl rfl rfl rfl ?_
          refine TL_gskip rfl rfl rfl rfl ?_
          refine TL_gskip rfl rfl rfl rfl ?_
          refine TL_gskip rfl rfl rfl rfl ?_
          refine TL_gskip rfl rfl rfl rfl ?_
          refine TL_y rfl rfl (Y_pick_f rfl rfl) ?_
          refine TL_y rfl rfl (Y_move rfl) ?_
          refine TL_gskip rfl rfl rfl rfl ?_
          refine TL_gskip rfl rfl rfl rfl ?_
          refine TL_gskip rfl rfl rfl rfl ?_
          refine TL_gskip rfl rfl rfl rfl ?_
          refine TL_gskip rfl rfl rfl rfl ?_
          refine TL_y rfl rfl (Y_pick_f rfl rfl) ?_
          refine TL_y rfl rfl (Y_move rfl) ?_
          refine TL_gskip rfl rfl rfl rfl ?_
          refine TL_gskip rfl rfl rfl rfl ?_
          refine TL_gskip rfl rfl rfl rfl ?_
          refine TL_gskip rfl rfl rfl rfl ?_
          refine TL_gskip rfl rfl rfl rfl ?_
          refine TL_y rfl rfl (Y_pick_f rfl rfl) ?_
          refine TL_y rfl rfl (Y_move rfl) ?_
          refine TL_gskip rfl rfl rfl rfl ?_
          refine TL_gskip rfl rfl rfl rfl ?_
          refine TL_gskip rfl rfl rfl rfl ?_
          refine TL_gskip rfl rfl rfl rfl ?_
          refine TL_gskip rfl rfl rfl rfl ?_
          refine TL_y rfl rfl (Y_pick_f rfl rfl) ?_
          refine TL_y rfl rfl (Y_move rfl) ?_
          refine TL_gskip rfl rfl rfl rfl ?_
          refine TL_gskip rfl rfl rfl rfl ?_
          refine TL_gskip rfl rfl rfl rfl ?_
          refine TL_gskip rfl rfl rfl rfl ?_
          refine TL_gskip rfl rfl rfl rfl ?_
          refine TL_y rfl rfl (Y_pick_f rfl rfl) ?_
          refine TL_y rfl rfl (Y_assign rfl) ?_
          refine TL_nil ?_
          refine T_region_last ?_
          refine TL_y rfl rfl (Y_move rfl) ?_
          refine TL_y rfl rfl (Y_move rfl) ?_
          refine TL_splitd 143 rfl (fun h143 => ?_) (fun h143 => ?_)
          · refine TL_gskip rfl rfl rfl rfl ?_
            refine TL_gskip rfl rfl rfl rfl ?_
            refine TL_y rfl rfl (Y_pick_t rfl rfl) ?_
            refine TL_y rfl rfl (Y_assign rfl) ?_
            refine TL_nil ?_
            refine thenS_normal ?_
            refine T_seq ?_
            refine T_region ?_
            refine TL_y rfl rfl (Y_move rfl) ?_
            refine TL_y rfl rfl (Y_not_t rfl) ?_
            refine TL_nil ?_
            refine T_cond_false rfl ?_
            refine T_skip ?_
            refine thenS_normal ?_
            refine T_region ?_
            refine TL_y rfl rfl (Y_move rfl) ?_
            refine TL_y rfl rfl (Y_bytes_strN rfl sln) ?_
            refine TL_y rfl rfl (Y_build rfl rfl) ?_
            refine TL_store rfl rfl rfl rfl rfl rfl ?_
            refine TL_nil ?_
            refine T_ret ?_
            have hch : chgA s m := .inr ⟨h3, by rw [hg]; simp⟩
            have hj : judgeV s m = .agg #[.string (strOfNums (outB (wMsg m ([], false)))), .bool true, .bool false] := by unfold judgeV recA; rw [if_pos ⟨hm, hn, hch⟩, decide_eq_true hm, decide_eq_false (fun h => hn h.2)]
            rw [hj]
            refine RetQ.gives (ac_close b s hi) ?_
            exact RetG_1 (.inl rfl) rfl (ResV.agg rfl rfl) GivesTo.g (⟨rfl, rfl⟩)
          · refine TL_grun rfl rfl ?_
            refine TL_y rfl rfl (Y_move rfl) ?_
            refine TL_grun rfl rfl ?_
            refine TL_y rfl rfl (Y_not_f rfl) ?_
            refine TL_y rfl rfl (Y_pick_f rfl rfl) ?_
            refine TL_y rfl rfl (Y_assign rfl) ?_
            refine TL_nil ?_
            refine thenS_normal ?_
            refine T_seq ?_
            refine T_region ?_
            refine TL_y rfl rfl (Y_move rfl) ?_
            refine TL_y rfl rfl (Y_not_t rfl) ?_
            refine TL_nil ?_
            refine T_cond_false rfl ?_
            refine T_skip ?_
            refine thenS_normal ?_
            refine T_region ?_
            refine TL_y rfl rfl (Y_move rfl) ?_
            refine TL_y rfl rfl (Y_bytes_strN rfl sln) ?_
            refine TL_y rfl rfl (Y_build rfl rfl) ?_
            refine TL_store rfl rfl rfl rfl rfl rfl ?_
            refine TL_nil ?_
            refine T_ret ?_
            have hch : chgA s m := .inr ⟨h3, by rw [hg]; simp⟩
            have hj : judgeV s m = .agg #[.string (strOfNums (outB (wMsg m ([], false)))), .bool true, .bool false] := by unfold judgeV recA; rw [if_pos ⟨hm, hn, hch⟩, decide_eq_true hm, decide_eq_false (fun h => hn h.2)]
            rw [hj]
            refine RetQ.gives (ac_close b s hi) ?_
            exact RetG_1 (.inl rfl) rfl (ResV.agg rfl rfl) GivesTo.g (⟨rfl, rfl⟩)
  · refine RD_leaf _ [0, 1, 3, 7, 0, 16, 1087, 1151, 1279, 1279, 0, 1535, 4095] [] [(0, true), (1, true), (2, true), (3, true), (4, true), (5, true), (10, false), (6, false), (7, true), (8, true), (9, true), (11, false), (12, true)] (by decide +kernel) (Gives.refl _) ?_
    refine TF_y rfl rfl (Y_move rfl) ?_
    refine TF_y rfl rfl (Y_nil_check rfl) ?_
    refine TF_y rfl rfl (Y_field_addr rfl) ?_
    refine TF_y rfl rfl (Y_load rfl rfl) ?_
    refine TF_y rfl rfl (Y_field_addr rfl) ?_
    refine TF_y rfl rfl (Y_load rfl rfl) ?_
    refine TF_anchor rfl ?_
    refine TL_alloc rfl rfl ?_
    intro b7
    refine TF_end GivesTo.g ?_
    refine TF_anchor rfl ?_
    refine TL_lookup_okx (R := votedR) (k := m.slot) rfl rfl rfl hx.slot (fun hn => ?_) (fun u p hu hou => absurd hu (by rw [hg]; simp))
    refine TF_end GivesTo.g ?_
    refine TF_y rfl rfl (Y_move rfl) ?_
    refine TF_y rfl rfl (Y_extract rfl rfl) ?_
    refine TF_y rfl rfl (Y_extract rfl rfl) ?_
    refine TF_name 55 (v' := .bool false) rfl (rfl) ?_
    refine TF_anchor rfl ?_
    refine TL_store rfl rfl rfl rfl rfl rfl ?_
    refine TF_end GivesTo.g ?_
    refine TF_y rfl rfl (Y_assign rfl) ?_
    refine TF_nil ?_
    refine thenS_normal ?_
    refine T_region ?_
    refine TL_y rfl rfl (Y_field_addr rfl) ?_
    refine TL_y rfl rfl (Y_load rfl rfl) ?_
    refine TL_y rfl rfl (Y_eq rfl rfl) ?_
    refine TL_name 58 (v' := .bool true) rfl (congrArg Value.bool (decide_eq_true h3)) ?_
    refine TL_y rfl rfl (Y_assign rfl) ?_
    refine TL_nil ?_
    refine T_seq ?_
    refine T_region_draw _ [0, 1, 0, 4, 12, 28, 63, 127, 255, 511, 1023, 2047, 4095, 8191, 16383, 32767, 65535, 131071, 262143, 524287, 1048575, 2097151, 4194303] [] [(0, true), (1, true), (2, true), (3, true), (4, true), (5, true), (6, false), (7, true), (8, true), (9, true), (10, true), (11, true), (12, true), (13, true), (14, true), (15, true), (16, true), (17, true), (18, true), (19, true), (20, true), (21, true), (22, true)] (by kernel_rfl) (by decide +kernel) (Gives.refl _) ?_
    refine TF_y rfl rfl (Y_field_addr rfl) ?_
    refine TF_y rfl rfl (Y_load_agg rfl rfl) ?_
    refine TF_y rfl rfl (Y_move rfl) ?_
    refine TF_y rfl rfl (Y_nil_check rfl) ?_
    refine TF_y rfl rfl (Y_field_addr rfl) ?_
    refine TF_y rfl rfl (Y_load_agg rfl rfl) ?_
    refine TF_anchor rfl ?_
    refine TL_call rfl rfl (compare_spec m.bal s.prom _) ?_
    rintro _ _ ⟨rfl, rfl⟩
    refine TF_end GivesTo.g ?_
    refine TF_y rfl rfl (Y_lt rfl rfl) ?_
    refine TF_y rfl rfl (Y_move rfl) ?_
    refine TF_splitd 67 rfl (fun h67 => ?_) (fun h67 => ?_)
    · refine TF_gskip rfl rfl rfl rfl rfl ?_
      refine TF_gskip rfl rfl rfl rfl rfl ?_
      refine TF_gskip_u rfl rfl rfl rfl ?_
      refine TF_gskip_u rfl rfl rfl rfl ?_
      refine TF_gskip rfl rfl rfl rfl rfl ?_
      refine TF_gskip rfl rfl rfl rfl rfl ?_
      refine TF_gskip_u rfl rfl rfl rfl ?_
      refine TF_gskip_u rfl rfl rfl rfl ?_
      refine TF_gskip_u rfl rfl rfl rfl ?_
      refine TF_gskip_u rfl rfl rfl rfl ?_
      refine TF_gskip_u rfl rfl rfl rfl ?_
      refine TF_gskip_u rfl rfl rfl rfl ?_
      refine TF_gskip rfl rfl rfl rfl rfl ?_
      refine TF_y rfl rfl (Y_pick_t rfl rfl) ?_
      refine TF_nil ?_
      refine T_cond_true rfl ?_
      refine T_region ?_
      refine TL_y rfl rfl (Y_build rfl rfl) ?_
      refine TL_store rfl rfl rfl rfl rfl rfl ?_
      refine TL_nil ?_
      refine T_ret ?_
      refine thenS_ret ?_
      have hn : nackA s m := by unfold nackA; rw [hg]; first | (left; omega) | (right; exact ⟨h3, rfl, by omega⟩)
      have hj : judgeV s m = .agg #[.string ⟨#[]⟩, .bool true, .bool true] := by unfold judgeV recA; rw [if_neg (fun h => h.2.1 hn), decide_eq_true hm, decide_eq_true (And.intro hm hn)]
      rw [hj]
      refine RetQ.gives (ac_close b s hi) ?_
      exact RetG_1 (.inl rfl) rfl (ResV.agg rfl rfl) GivesTo.g (⟨rfl, rfl⟩)
    · refine TF_gy rfl rfl rfl rfl (Y_move rfl) ?_
      refine TF_gy rfl rfl rfl rfl (Y_move rfl) ?_
      refine TF_gy rfl rfl rfl rfl (Y_move rfl) ?_
      refine TF_gy rfl rfl rfl rfl (Y_not_f rfl) ?_
      refine TF_gy rfl rfl rfl rfl (Y_pick_t rfl rfl) ?_
      refine TF_gy rfl rfl rfl rfl (Y_move rfl) ?_
      refine TF_gy rfl rfl rfl rfl (Y_move rfl) ?_
      refine TF_gy rfl rfl rfl rfl (Y_nil_check rfl) ?_
      refine TF_gy rfl rfl rfl rfl (Y_field_addr rfl) ?_
      refine TF_gy rfl rfl rfl rfl (Y_load rfl rfl) ?_
      refine TF_gy rfl rfl rfl rfl (Y_len_map rfl ) ?_
      refine TF_name 78 (v' := .int .i64 (s.V.length : Int)) rfl (by simp) ?_
      refine TF_gy rfl rfl rfl rfl (Y_ge rfl rfl) ?_
      refine TF_gy rfl rfl rfl rfl (Y_pick_t rfl rfl) ?_
      refine TF_y rfl rfl (Y_pick_f rfl rfl) ?_
      refine TF_nil ?_
      refine T_if rfl (fun h81 => ?_) (fun h81 => ?_)
      · refine T_region ?_
        refine TL_y rfl rfl (Y_build rfl rfl) ?_
        refine TL_store rfl rfl rfl rfl rfl rfl ?_
        refine TL_nil ?_
        refine T_ret ?_
        refine thenS_ret ?_
        have hn : nackA s m := by unfold nackA; rw [hg]; first | (left; omega) | (right; exact ⟨h3, rfl, by omega⟩)
        have hj : judgeV s m = .agg #[.string ⟨#[]⟩, .bool true, .bool true] := by unfold judgeV recA; rw [if_neg (fun h => h.2.1 hn), decide_eq_true hm, decide_eq_true (And.intro hm hn)]
        rw [hj]
        refine RetQ.gives (ac_close b s hi) ?_
        exact RetG_1 (.inl rfl) rfl (ResV.agg rfl rfl) GivesTo.g (⟨rfl, rfl⟩)
      · refine T_skip ?_
        refine thenS_normal ?_
        have hn : ¬ nackA s m := by unfold nackA; rintro (h | ⟨_, _, h⟩) <;> omega
        refine T_region_draw _ [0, 1, 3, 7, 0, 16, 63, 127] [] [(0, true), (1, true), (2, true), (3, true), (4, true), (5, true), (6, true), (7, true)] (by kernel_rfl) (by decide +kernel) (Gives.refl _) ?_
        refine TF_y rfl rfl (Y_move rfl) ?_
        refine TF_y rfl rfl (Y_nil_check rfl) ?_
        refine TF_y rfl rfl (Y_field_addr rfl) ?_
        refine TF_y rfl rfl (Y_load_agg rfl rfl) ?_
        refine TF_y rfl rfl (Y_field_addr rfl) ?_
        refine TF_y rfl rfl (Y_load_agg rfl rfl) ?_
        refine TF_y rfl rfl (Y_ne_bal rfl rfl) ?_
        refine TF_name 89 (v' := .bool (decide (s.prom ≠ m.bal))) rfl (by by_cases h : s.prom = m.bal <;> simp [h]) ?_
        refine TF_y rfl rfl (Y_assign rfl) ?_
        refine TF_nil ?_
        refine T_seq ?_
        refine T_region ?_
        refine TL_y rfl rfl (Y_move rfl) ?_
        refine TL_nil ?_
        refine T_cond_true rfl ?_
        refine T_rd [0, 1, 3, 0, 8, 24, 0, 0, 199, 511] (by kernel_rfl) (by decide +kernel) ?_
        refine RD_pair 6 7 (by decide) ?_ ?_
        · refine RD_leaf _ [0, 1, 3, 0, 8, 24, 0, 64, 199, 511] [] [(0, true), (1, true), (2, true), (3, true), (4, true), (5, true), (6, false), (7, false), (8, false), (9, false)] (by decide +kernel) (Gives.refl _) ?_
          refine TF_y rfl rfl (Y_field_addr rfl) ?_
          refine TF_y rfl rfl (Y_field_addr rfl) ?_
          refine TF_y rfl rfl (Y_load_agg rfl rfl) ?_
          refine TF_y rfl rfl (Y_field_addr rfl) ?_
          refine TF_y rfl rfl (Y_field_addr rfl) ?_
          refine TF_y rfl rfl (Y_load_agg rfl rfl) ?_
          refine TF_anchor rfl ?_
          refine TL_alloc rfl rfl ?_
          intro b11
          refine TF_end GivesTo.g ?_
          refine TF_anchor rfl ?_
          refine TL_alloc rfl rfl ?_
          intro b12
          refine TF_end GivesTo.g ?_
          refine TF_anchor rfl ?_
          refine TL_store rfl rfl rfl rfl rfl rfl ?_
          refine TF_end GivesTo.g ?_
          refine TF_anchor rfl ?_
          refine TL_store rfl rfl rfl rfl rfl rfl ?_
          refine TF_end GivesTo.g ?_
          refine TF_nil ?_
          refine thenS_normal ?_
          refine T_region ?_
          refine TL_y rfl rfl (Y_move rfl) ?_
          refine TL_y rfl rfl (Y_move rfl) ?_
          refine TL_gskip rfl rfl rfl rfl ?_
          refine TL_gskip rfl rfl rfl rfl ?_
          refine TL_gskip rfl rfl rfl rfl ?_
          refine TL_gskip rfl rfl rfl rfl ?_
          refine TL_gskip rfl rfl rfl rfl ?_
          refine TL_y rfl rfl (Y_pick_f rfl rfl) ?_
          refine TL_y rfl rfl (Y_move rfl) ?_
          refine TL_gskip rfl rfl rfl rfl ?_
          refine TL_gskip rfl rfl rfl rfl ?_
          refine TL_gskip rfl rfl rfl rfl ?_
          refine TL_gskip rfl rfl rfl rfl ?_
          refine TL_gskip rfl rfl rfl rfl ?_
          refine TL_gskip rfl rfl rfl rfl ?_
          refine TL_gskip rfl rfl rfl rfl ?_
          refine TL_y rfl rfl (Y_pick_f rfl rfl) ?_
          refine TL_y rfl rfl (Y_move rfl) ?_
          refine TL_gskip rfl rfl rfl rfl ?_
          refine TL_gskip rfl rfl rfl rfl ?_
          refine TL_gskip rfl rfl rfl rfl ?_
          refine TL_gskip rfl rfl rfl rfl ?_
          refine TL_gskip rfl rfl rfl rfl ?_
          refine TL_y rfl rfl (Y_pick_f rfl rfl) ?_
          refine TL_y rfl rfl (Y_move rfl) ?_
          refine TL_gskip rfl rfl rfl rfl ?_
          refine TL_gskip rfl rfl rfl rfl ?_
          refine TL_gskip rfl rfl rfl rfl ?_
          refine TL_gskip rfl rfl rfl rfl ?_
          refine TL_gskip rfl rfl rfl rfl ?_
          refine TL_y rfl rfl (Y_pick_f rfl rfl) ?_
          refine TL_y rfl rfl (Y_move rfl) ?_
          refine TL_gskip rfl rfl rfl rfl ?_
          refine TL_gskip rfl rfl rfl rfl ?_
          refine TL_gskip rfl rfl rfl rfl ?_
          refine TL_gskip rfl rfl rfl rfl ?_
          refine TL_gskip rfl rfl rfl rfl ?_
          refine TL_y rfl rfl (Y_pick_f rfl rfl) ?_
          refine TL_y rfl rfl (Y_move rfl) ?_
          refine TL_gskip rfl rfl rfl rfl ?_
          refine TL_gskip rfl rfl rfl rfl ?_
          refine TL_gskip rfl rfl rfl rfl ?_
          refine TL_gskip rfl rfl rfl rfl ?_
          refine TL_gskip rfl rfl rfl rfl ?_
          refine TL_y rfl rfl (Y_pick_f rfl rfl) ?_
          refine TL_y rfl rfl (Y_assign rfl) ?_
          refine TL_nil ?_
          refine T_region_last ?_
          refine TL_y rfl rfl (Y_move rfl) ?_
          refine TL_y rfl rfl (Y_move rfl) ?_
          refine TL_splitd 143 rfl (fun h143 => ?_) (fun h143 => ?_)
          · refine TL_gskip rfl rfl rfl rfl ?_
            refine TL_gskip rfl rfl rfl rfl ?_
            refine TL_y rfl rfl (Y_pick_t rfl rfl) ?_
            refine TL_y rfl rfl (Y_assign rfl) ?_
            refine TL_nil ?_
            refine thenS_normal ?_
            refine T_seq ?_
            refine T_region ?_
            refine TL_y rfl rfl (Y_move rfl) ?_
            refine TL_y rfl rfl (Y_not_t rfl) ?_
            refine TL_nil ?_
            refine T_cond_false rfl ?_
            refine T_skip ?_
            refine thenS_normal ?_
            refine T_region ?_
            refine TL_y rfl rfl (Y_move rfl) ?_
            refine TL_y rfl rfl (Y_bytes_strN rfl sln) ?_
            refine TL_y rfl rfl (Y_build rfl rfl) ?_
            refine TL_store rfl rfl rfl rfl rfl rfl ?_
            refine TL_nil ?_
            refine T_ret ?_
            have hch : chgA s m := .inr ⟨h3, by rw [hg]; simp⟩
            have hj : judgeV s m = .agg #[.string (strOfNums (outB (wMsg m ([], false)))), .bool true, .bool false] := by unfold judgeV recA; rw [if_pos ⟨hm, hn, hch⟩, decide_eq_true hm, decide_eq_false (fun h => hn h.2)]
            rw [hj]
            refine RetQ.gives (ac_close b s hi) ?_
            exact RetG_1 (.inl rfl) rfl (ResV.agg rfl rfl) GivesTo.g (⟨rfl, rfl⟩)
          · refine TL_grun rfl rfl ?_
            refine TL_y rfl rfl (Y_move rfl) ?_
            refine TL_grun rfl rfl ?_
            refine TL_y rfl rfl (Y_not_f rfl) ?_
            refine TL_y rfl rfl (Y_pick_f rfl rfl) ?_
            refine TL_y rfl rfl (Y_assign rfl) ?_
            refine TL_nil ?_
            refine thenS_normal ?_
            refine T_seq ?_
            refine T_region ?_
            refine TL_y rfl rfl (Y_move rfl) ?_
            refine TL_y rfl rfl (Y_not_t rfl) ?_
            refine TL_nil ?_
            refine T_cond_false rfl ?_
            refine T_skip ?_
            refine thenS_normal ?_
            refine T_region ?_
            refine TL_y rfl rfl (Y_move rfl) ?_
            refine TL_y rfl rfl (Y_bytes_strN rfl sln) ?_
            refine TL_y rfl rfl (Y_build rfl rfl) ?_
            refine TL_store rfl rfl rfl rfl rfl rfl ?_
            refine TL_nil ?_
            refine T_ret ?_
            have hch : chgA s m := .inr ⟨h3, by rw [hg]; simp⟩
            have hj : judgeV s m = .agg #[.string (strOfNums (outB (wMsg m ([], false)))), .bool true, .bool false] := by unfold judgeV recA; rw [if_pos ⟨hm, hn, hch⟩, decide_eq_true hm, decide_eq_false (fun h => hn h.2)]
            rw [hj]
            refine RetQ.gives (ac_close b s hi) ?_
            exact RetG_1 (.inl rfl) rfl (ResV.agg rfl rfl) GivesTo.g (⟨rfl, rfl⟩)
        · refine RD_leaf _ [0, 1, 3, 0, 8, 24, 128, 0, 199, 511] [] [(0, true), (1, true), (2, true), (3, true), (4, true), (5, true), (7, false), (6, false), (8, false), (9, false)] (by decide +kernel) (Gives.refl _) ?_
          refine TF_y rfl rfl (Y_field_addr rfl) ?_
          refine TF_y rfl rfl (Y_field_addr rfl) ?_
          refine TF_y rfl rfl (Y_load_agg rfl rfl) ?_
          refine TF_y rfl rfl (Y_field_addr rfl) ?_
          refine TF_y rfl rfl (Y_field_addr rfl) ?_
          refine TF_y rfl rfl (Y_load_agg rfl rfl) ?_
          refine TF_anchor rfl ?_
          refine TL_alloc rfl rfl ?_
          intro b12
          refine TF_end GivesTo.g ?_
          refine TF_anchor rfl ?_
          refine TL_alloc rfl rfl ?_
          intro b11
          refine TF_end GivesTo.g ?_
          refine TF_anchor rfl ?_
          refine TL_store rfl rfl rfl rfl rfl rfl ?_
          refine TF_end GivesTo.g ?_
          refine TF_anchor rfl ?_
          refine TL_store rfl rfl rfl rfl rfl rfl ?_
          refine TF_end GivesTo.g ?_
          refine TF_nil ?_
          refine thenS_normal ?_
          refine T_region ?_
          refine TL_y rfl rfl (Y_move rfl) ?_
          refine TL_y rfl rfl (Y_move rfl) ?_
          refine TL_gskip rfl rfl rfl rfl ?_
          refine TL_gskip rfl rfl rfl rfl ?_
          refine TL_gskip rfl rfl rfl rfl ?_
          refine TL_gskip rfl rfl rfl rfl ?_
          refine TL_gskip rfl rfl rfl rfl ?_
          refine TL_y rfl rfl (Y_pick_f rfl rfl) ?_
          refine TL_y rfl rfl (Y_move rfl) ?_
          refine TL_gskip rfl rfl rfl rfl ?_
          refine TL_gskip rfl rfl rfl rfl ?_
          refine TL_gskip rfl rfl rfl rfl ?_
          refine TL_gskip rfl rfl rfl rfl ?_
          refine TL_gskip rfl rfl rfl rfl ?_
          refine TL_gskip rfl rfl rfl rfl ?_
          refine TL_gskip rfl rfl rfl rfl ?_
          refine TL_y rfl rfl (Y_pick_f rfl rfl) ?_
          refine TL_y rfl rfl (Y_move rfl) ?_
          refine TL_gskip rfl rfl rfl rfl ?_
          refine TL_gskip rfl rfl rfl rfl ?_
          refine TL_gskip rfl rfl rfl rfl ?_
          refine TL_gskip rfl rfl rfl rfl ?_
          refine TL_gskip rfl rfl rfl rfl ?_
          refine TL_y rfl rfl (Y_pick_f rfl rfl) ?_
          refine TL_y rfl rfl (Y_move rfl) ?_
          refine TL_gskip rfl rfl rfl rfl ?_
          refine TL_gskip rfl rfl rfl rfl ?_
          refine TL_gskip rfl rfl rfl rfl ?_
          refine TL_gskip rfl rfl rfl rfl ?_
          refine TL_gskip rfl rfl rfl rfl ?_
          refine TL_y rfl rfl (Y_pick_f rfl rfl) ?_
          refine TL_y rfl rfl (Y_move rfl) ?_
          refine TL_gskip rfl rfl rfl rfl ?_
          refine TL_gskip rfl rfl rfl rfl ?_
          refine TL_gskip rfl rfl rfl rfl ?_
          refine TL_gskip rfl rfl rfl rfl ?_
          refine TL_gskip rfl rfl rfl rfl ?_
          refine TL_y rfl rfl (Y_pick_f rfl rfl) ?_
          refine TL_y rfl rfl (Y_move rfl) ?_
          refine TL_gskip rfl rfl rfl rfl ?_
          refine TL_gskip rfl rfl rfl rfl ?_
          refine TL_gskip rfl rfl rfl rfl ?_
          refine TL_gskip rfl rfl rfl rfl ?_
          refine TL_gskip rfl rfl rfl rfl ?_
          refine TL_y rfl rfl (Y_pick_f rfl rfl) ?_
          refine TL_y rfl rfl (Y_assign rfl) ?_
          refine TL_nil ?_
          refine T_region_last ?_
          refine TL_y rfl rfl (Y_move rfl) ?_
          refine TL_y rfl rfl (Y_move rfl) ?_
          refine TL_splitd 143 rfl (fun h143 => ?_) (fun h143 => ?_)
          · refine TL_gskip rfl rfl rfl rfl ?_
            refine TL_gskip rfl rfl rfl rfl ?_
            refine TL_y rfl rfl (Y_pick_t rfl rfl) ?_
            refine TL_y rfl rfl (Y_assign rfl) ?_
            refine TL_nil ?_
            refine thenS_normal ?_
            refine T_seq ?_
            refine T_region ?_
            refine TL_y rfl rfl (Y_move rfl) ?_
            refine TL_y rfl rfl (Y_not_t rfl) ?_
            refine TL_nil ?_
            refine T_cond_false rfl ?_
            refine T_skip ?_
            refine thenS_normal ?_
            refine T_region ?_
            refine TL_y rfl rfl (Y_move rfl) ?_
            refine TL_y rfl rfl (Y_bytes_strN rfl sln) ?_
            refine TL_y rfl rfl (Y_build rfl rfl) ?_
            refine TL_store rfl rfl rfl rfl rfl rfl ?_
            refine TL_nil ?_
            refine T_ret ?_
            have hch : chgA s m := .inr ⟨h3, by rw [hg]; simp⟩
            have hj : judgeV s m = .agg #[.string (strOfNums (outB (wMsg m ([], false)))), .bool true, .bool false] := by unfold judgeV recA; rw [if_pos ⟨hm, hn, hch⟩, decide_eq_true hm, decide_eq_false (fun h => hn h.2)]
            rw [hj]
            refine RetQ.gives (ac_close b s hi) ?_
            exact RetG_1 (.inl rfl) rfl (ResV.agg rfl rfl) GivesTo.g (⟨rfl, rfl⟩)
          · refine TL_grun rfl rfl ?_
            refine TL_y rfl rfl (Y_move rfl) ?_
            refine TL_grun rfl rfl ?_
            refine TL_y rfl rfl (Y_not_f rfl) ?_
            refine TL_y rfl rfl (Y_pick_f rfl rfl) ?_
            refine TL_y rfl rfl (Y_assign rfl) ?_
            refine TL_nil ?_
            refine thenS_normal ?_
            refine T_seq ?_
            refine T_region ?_
            refine TL_y rfl rfl (Y_move rfl) ?_
            refine TL_y rfl rfl (Y_not_t rfl) ?_
            refine TL_nil ?_
            refine T_cond_false rfl ?_
            refine T_skip ?_
            refine thenS_normal ?_
            refine T_region ?_
            refine TL_y rfl rfl (Y_move rfl) ?_
            refine TL_y rfl rfl (Y_bytes_strN rfl sln) ?_
            refine TL_y rfl rfl (Y_build rfl rfl) ?_
            refine TL_store rfl rfl rfl rfl rfl rfl ?_
            refine TL_nil ?_
            refine T_ret ?_
            have hch : chgA s m := .inr ⟨h3, by rw [hg]; simp⟩
            have hj : judgeV s m = .agg #[.string (strOfNums (outB (wMsg m ([], false)))), .bool true, .bool false] := by unfold judgeV recA; rw [if_pos ⟨hm, hn, hch⟩, decide_eq_true hm, decide_eq_false (fun h => hn h.2)]
            rw [hj]
            refine RetQ.gives (ac_close b s hi) ?_
            exact RetG_1 (.inl rfl) rfl (ResV.agg rfl rfl) GivesTo.g (⟨rfl, rfl⟩)
end Go.SL
set_option linter.unusedVariables false
set_option linter.unusedSimpArgs false
namespace Go.SL
open Go Go.Proofs
theorem en_eq {a b : EntryD} : a = b ↔ a.noop = b.noop ∧ a.order.token = b.order.token ∧ a.order.cart = b.order.cart ∧ a.order.epoch = b.order.epoch ∧ a.order.cut = b.order.cut := by
  obtain ⟨a1, a2, a3, a4, a5⟩ := a
  obtain ⟨b1, b2, b3, b4, b5⟩ := b
  simp
set_option maxHeartbeats 4000000 in
set_option maxRecDepth 20000 in
theorem acJudge_accS {L : List HP} {b : Nat} {s : AccD} (m : MsgD) (p : MsgP) (hx : MsgOk m) (hk : MsgK L m p) (hc : cMsg m ≤ 140737488355328) (hm : mineA s m) (h3 : m.kind = 3) {u : VotedD} (hg : getM (vmap s.V) m.slot = some u) : Fn Try.prog 62 #[.pointer (some ⟨b, 0, none⟩), .agg (List.toArray (msgC m p))] (ac b s :: L) (fun v L' => v = judgeV s m ∧ L' = ac b s :: L) := by
  refine Fn_enter Try.func62 rfl rfl rfl rfl ?_
  refine T_region ?_
  refine TL_box rfl rfl rfl ?_
  intro b3
  refine TL_alloc rfl rfl ?_
  intro b4
  refine TL_nil ?_
  refine T_region ?_
  refine TL_y rfl rfl (Y_load_agg rfl rfl) ?_
  refine TL_call rfl rfl (msg_spec m p hx hk.tail.tail.tail hc) ?_
  rintro _ _ ⟨A16, c16, rfl, rfl⟩
  refine TL_y rfl rfl (Y_move rfl) ?_
  refine TL_y rfl rfl (Y_extract rfl rfl) ?_
  refine TL_y rfl rfl (Y_extract rfl rfl) ?_
  refine TL_y rfl rfl (Y_assign rfl) ?_
  refine TL_y rfl rfl (Y_assign rfl) ?_
  refine TL_nil ?_
  refine T_seq ?_
  refine T_region_draw _ [0, 1, 3, 7, 15, 31, 63, 127, 255, 511, 255, 1279, 3327, 7423, 16383, 32767, 65535, 131071, 262143, 524287, 1048575, 2097151, 4194303, 8388607, 16777215, 33554431] [] [(0, true), (1, false), (2, true), (3, true), (4, true), (5, true), (6, true), (7, true), (8, true), (9, true), (10, true), (11, true), (12, true), (13, true), (14, true), (15, true), (16, true), (17, true), (18, true), (19, true), (20, true), (21, true), (22, true), (23, true), (24, true), (25, true)] (by kernel_rfl) (by decide +kernel) (Gives.refl _) ?_
  refine TF_y rfl rfl (Y_move rfl) ?_
  refine TF_anchor rfl ?_
  refine TL_pullk b ?_
  refine TL_call rfl rfl (acMade_spec) ?_
  rintro _ _ ⟨rfl, rfl⟩
  refine TL_name 20 (v' := .bool true) rfl (rfl) ?_
  refine TF_end GivesTo.g ?_
  refine TF_y rfl rfl (Y_not_t rfl) ?_
  refine TF_y rfl rfl (Y_move rfl) ?_
  refine TF_gy rfl rfl rfl rfl (Y_move rfl) ?_
  refine TF_gy rfl rfl rfl rfl (Y_ne rfl rfl) ?_
  refine TF_name 24 (v' := .bool false) rfl (congrArg Value.bool (decide_eq_false (by have := hm.1; omega))) ?_
  refine TF_y rfl rfl (Y_pick_f rfl rfl) ?_
  refine TF_y rfl rfl (Y_move rfl) ?_
  refine TF_gy rfl rfl rfl rfl (Y_field_addr rfl) ?_
  refine TF_gy rfl rfl rfl rfl (Y_load rfl rfl) ?_
  refine TF_gy rfl rfl rfl rfl (Y_move rfl) ?_
  refine TF_gy rfl rfl rfl rfl (Y_nil_check rfl) ?_
  refine TF_gy rfl rfl rfl rfl (Y_field_addr rfl) ?_
  refine TF_gy rfl rfl rfl rfl (Y_ac (b := b) fun bt => Y_load rfl rfl) ?_
  refine TF_gy rfl rfl rfl rfl (Y_ne rfl rfl) ?_
  refine TF_name 33 (v' := .bool false) rfl (congrArg Value.bool (decide_eq_false (by have := hm.2.1; omega))) ?_
  refine TF_y rfl rfl (Y_pick_f rfl rfl) ?_
  refine TF_y rfl rfl (Y_move rfl) ?_
  refine TF_gy rfl rfl rfl rfl (Y_field_addr rfl) ?_
  refine TF_gy rfl rfl rfl rfl (Y_load rfl rfl) ?_
  refine TF_gy rfl rfl rfl rfl (Y_ne rfl rfl) ?_
  refine TF_name 38 (v' := .bool true) rfl (congrArg Value.bool (decide_eq_true (by omega))) ?_
  refine TF_gy rfl rfl rfl rfl (Y_move rfl) ?_
  refine TF_gy rfl rfl rfl rfl (Y_field_addr rfl) ?_
  refine TF_gy rfl rfl rfl rfl (Y_load rfl rfl) ?_
  refine TF_gy rfl rfl rfl rfl (Y_ne rfl rfl) ?_
  refine TF_name 42 (v' := .bool false) rfl (congrArg Value.bool (decide_eq_false (by omega))) ?_
  refine TF_gy rfl rfl rfl rfl (Y_pick_t rfl rfl) ?_
  refine TF_y rfl rfl (Y_pick_f rfl rfl) ?_
  refine TF_nil ?_
  refine T_cond_false rfl ?_
  refine T_skip ?_
  refine thenS_normal ?_
  refine T_pullk b ?_
  refine T_ac fun bt hi => ?_
  refine T_rd [0, 1, 3, 7, 0, 16, 63, 127, 255, 255, 0, 1535, 4095] (by kernel_rfl) (by decide +kernel) ?_
  refine RD_pair 6 10 (by decide) ?_ ?_
  · refine RD_leaf _ [0, 1, 3, 7, 0, 16, 63, 127, 255, 255, 127, 1535, 4095] [] [(0, true), (1, true), (2, true), (3, true), (4, true), (5, true), (6, false), (7, true), (8, true), (9, true), (10, false), (11, false), (12, true)] (by decide +kernel) (Gives.refl _) ?_
    refine TF_y rfl rfl (Y_move rfl) ?_
    refine TF_y rfl rfl (Y_nil_check rfl) ?_
    refine TF_y rfl rfl (Y_field_addr rfl) ?_
    refine TF_y rfl rfl (Y_load rfl rfl) ?_
    refine TF_y rfl rfl (Y_field_addr rfl) ?_
    refine TF_y rfl rfl (Y_load rfl rfl) ?_
    refine TF_anchor rfl ?_
    refine TL_lookup_okx (R := votedR) (k := m.slot) rfl rfl rfl hx.slot (fun hn => absurd hn (by rw [hg]; simp)) (fun u2 p2 hu hou => ?_)
    rw [hg] at hu
    obtain rfl := Option.some.inj hu
    simp only [List.cons_append, List.nil_append]
    refine TF_end GivesTo.g ?_
    refine TF_y rfl rfl (Y_move rfl) ?_
    refine TF_y rfl rfl (Y_extract rfl rfl) ?_
    refine TF_y rfl rfl (Y_extract rfl rfl) ?_
    refine TF_name 55 (v' := .bool true) rfl (rfl) ?_
    refine TF_anchor rfl ?_
    refine TL_alloc rfl rfl ?_
    intro b7
    refine TF_end GivesTo.g ?_
    refine TF_anchor rfl ?_
    refine TL_store rfl rfl rfl rfl rfl rfl ?_
    refine TF_end GivesTo.g ?_
    refine TF_y rfl rfl (Y_assign rfl) ?_
    refine TF_nil ?_
    refine thenS_normal ?_
    refine T_region ?_
    refine TL_y rfl rfl (Y_field_addr rfl) ?_
    refine TL_y rfl rfl (Y_load rfl rfl) ?_
    refine TL_y rfl rfl (Y_eq rfl rfl) ?_
    refine TL_name 58 (v' := .bool true) rfl (congrArg Value.bool (decide_eq_true h3)) ?_
    refine TL_y rfl rfl (Y_assign rfl) ?_
    refine TL_nil ?_
    refine T_seq ?_
    refine T_region_draw _ [0, 1, 0, 4, 12, 28, 63, 127, 255, 511, 1023, 2047, 4095, 8191, 16383, 32767, 65535, 131071, 262143, 524287, 1048575, 2097151, 4194303] [] [(0, true), (1, true), (2, true), (3, true), (4, true), (5, true), (6, false), (7, true), (8, true), (9, true), (10, true), (11, true), (12, true), (13, true), (14, true), (15, true), (16, true), (17, true), (18, true), (19, true), (20, true), (21, true), (22, true)] (by kernel_rfl) (by decide +kernel) (Gives.refl _) ?_
    refine TF_y rfl rfl (Y_field_addr rfl) ?_
    refine TF_y rfl rfl (Y_load_agg rfl rfl) ?_
    refine TF_y rfl rfl (Y_move rfl) ?_
    refine TF_y rfl rfl (Y_nil_check rfl) ?_
    refine TF_y rfl rfl (Y_field_addr rfl) ?_
    refine TF_y rfl rfl (Y_load_agg rfl rfl) ?_
    refine TF_anchor rfl ?_
    refine TL_call rfl rfl (compare_spec m.bal s.prom _) ?_
    rintro _ _ ⟨rfl, rfl⟩
    refine TF_end GivesTo.g ?_
    refine TF_y rfl rfl (Y_lt rfl rfl) ?_
    refine TF_y rfl rfl (Y_move rfl) ?_
    refine TF_splitd 67 rfl (fun h67 => ?_) (fun h67 => ?_)
    · refine TF_gskip rfl rfl rfl rfl rfl ?_
      refine TF_gskip rfl rfl rfl rfl rfl ?_
      refine TF_gskip_u rfl rfl rfl rfl ?_
      refine TF_gskip_u rfl rfl rfl rfl ?_
      refine TF_gskip rfl rfl rfl rfl rfl ?_
      refine TF_gskip rfl rfl rfl rfl rfl ?_
      refine TF_gskip_u rfl rfl rfl rfl ?_
      refine TF_gskip_u rfl rfl rfl rfl ?_
      refine TF_gskip_u rfl rfl rfl rfl ?_
      refine TF_gskip_u rfl rfl rfl rfl ?_
      refine TF_gskip_u rfl rfl rfl rfl ?_
      refine TF_gskip_u rfl rfl rfl rfl ?_
      refine TF_gskip rfl rfl rfl rfl rfl ?_
      refine TF_y rfl rfl (Y_pick_t rfl rfl) ?_
      refine TF_nil ?_
      refine T_cond_true rfl ?_
      refine T_region ?_
      refine TL_y rfl rfl (Y_build rfl rfl) ?_
      refine TL_store rfl rfl rfl rfl rfl rfl ?_
      refine TL_nil ?_
      refine T_ret ?_
      refine thenS_ret ?_
      have hn : nackA s m := .inl (by omega)
      have hj : judgeV s m = .agg #[.string ⟨#[]⟩, .bool true, .bool true] := by unfold judgeV recA; rw [if_neg (fun h => h.2.1 hn), decide_eq_true hm, decide_eq_true (And.intro hm hn)]
      rw [hj]
      refine RetQ.gives (ac_close b s hi) ?_
      exact RetG_1 (.inl rfl) rfl (ResV.agg rfl rfl) GivesTo.g (⟨rfl, rfl⟩)
    · refine TF_gy rfl rfl rfl rfl (Y_move rfl) ?_
      refine TF_gy rfl rfl rfl rfl (Y_move rfl) ?_
      refine TF_gy rfl rfl rfl rfl (Y_move rfl) ?_
      refine TF_gy rfl rfl rfl rfl (Y_not_t rfl) ?_
      refine TF_gy rfl rfl rfl rfl (Y_pick_t rfl rfl) ?_
      refine TF_gy rfl rfl rfl rfl (Y_move rfl) ?_
      refine TF_gskip rfl rfl rfl rfl rfl ?_
      refine TF_gskip rfl rfl rfl rfl rfl ?_
      refine TF_gskip rfl rfl rfl rfl rfl ?_
      refine TF_gskip rfl rfl rfl rfl rfl ?_
      refine TF_gskip rfl rfl rfl rfl rfl ?_
      refine TF_gskip rfl rfl rfl rfl rfl ?_
      refine TF_gy rfl rfl rfl rfl (Y_pick_f rfl rfl) ?_
      refine TF_y rfl rfl (Y_pick_f rfl rfl) ?_
      refine TF_nil ?_
      refine T_cond_false rfl ?_
      refine T_skip ?_
      refine thenS_normal ?_
      have hn : ¬ nackA s m := by unfold nackA; rw [hg]; rintro (h | ⟨_, h, _⟩); omega; cases h
      have hkey : u = newV m ↔ u.bal = m.bal ∧ u.en = m.en := by have hus := (vmap_get hg).2; obtain ⟨u1, u2, u3⟩ := u; dsimp only at hus; subst hus; simp [newV]
      refine T_region_draw _ [0, 1, 3, 7, 0, 16, 63, 127] [] [(0, true), (1, true), (2, true), (3, true), (4, true), (5, true), (6, true), (7, true)] (by kernel_rfl) (by decide +kernel) (Gives.refl _) ?_
      refine TF_y rfl rfl (Y_move rfl) ?_
      refine TF_y rfl rfl (Y_nil_check rfl) ?_
      refine TF_y rfl rfl (Y_field_addr rfl) ?_
      refine TF_y rfl rfl (Y_load_agg rfl rfl) ?_
      refine TF_y rfl rfl (Y_field_addr rfl) ?_
      refine TF_y rfl rfl (Y_load_agg rfl rfl) ?_
      refine TF_y rfl rfl (Y_ne_bal rfl rfl) ?_
      refine TF_name 89 (v' := .bool (decide (s.prom ≠ m.bal))) rfl (by by_cases h : s.prom = m.bal <;> simp [h]) ?_
      refine TF_y rfl rfl (Y_assign rfl) ?_
      refine TF_nil ?_
      refine T_seq ?_
      refine T_region ?_
      refine TL_y rfl rfl (Y_move rfl) ?_
      refine TL_nil ?_
      refine T_cond_true rfl ?_
      refine T_rd [0, 1, 3, 0, 8, 24, 0, 0, 199, 511] (by kernel_rfl) (by decide +kernel) ?_
      refine RD_pair 6 7 (by decide) ?_ ?_
      · refine RD_leaf _ [0, 1, 3, 0, 8, 24, 0, 64, 199, 511] [] [(0, true), (1, true), (2, true), (3, true), (4, true), (5, true), (6, false), (7, false), (8, false), (9, false)] (by decide +kernel) (Gives.refl _) ?_
        refine TF_y rfl rfl (Y_field_addr rfl) ?_
        refine TF_y rfl rfl (Y_field_addr rfl) ?_
        refine TF_y rfl rfl (Y_load_agg rfl rfl) ?_
        refine TF_y rfl rfl (Y_field_addr rfl) ?_
        refine TF_y rfl rfl (Y_field_addr rfl) ?_
        refine TF_y rfl rfl (Y_load_agg rfl rfl) ?_
        refine TF_anchor rfl ?_
        refine TL_alloc rfl rfl ?_
        intro b11
        refine TF_end GivesTo.g ?_
        refine TF_anchor rfl ?_
        refine TL_alloc rfl rfl ?_
        intro b12
        refine TF_end GivesTo.g ?_
        refine TF_anchor rfl ?_
        refine TL_store rfl rfl rfl rfl rfl rfl ?_
        refine TF_end GivesTo.g ?_
        refine TF_anchor rfl ?_
        refine TL_store rfl rfl rfl rfl rfl rfl ?_
        refine TF_end GivesTo.g ?_
        refine TF_nil ?_
        refine thenS_normal ?_
        refine T_region ?_
        refine TL_both 45 141 (u.bal = m.bal ∧ u.en = m.en) ?_ ?_
        · refine TL_y rfl rfl (Y_move rfl) ?_
          refine TL_y rfl rfl (Y_move rfl) ?_
          refine TL_grun rfl rfl ?_
          refine TL_y rfl rfl (Y_field_addr rfl) ?_
          refine TL_grun rfl rfl ?_
          refine TL_y rfl rfl (Y_load_agg rfl rfl) ?_
          refine TL_grun rfl rfl ?_
          refine TL_y rfl rfl (Y_field_addr rfl) ?_
          refine TL_grun rfl rfl ?_
          refine TL_y rfl rfl (Y_load_agg rfl rfl) ?_
          refine TL_grun rfl rfl ?_
          refine TL_y rfl rfl (Y_eq_bal rfl rfl) ?_
          refine TL_y rfl rfl (Y_pick_t rfl rfl) ?_
          refine TL_y rfl rfl (Y_move rfl) ?_
          refine TL_splitd 105 rfl (fun h105 => ?_) (fun h105 => ?_)
          · refine TL_grun rfl rfl ?_
            refine TL_y rfl rfl (Y_field_addr rfl) ?_
            refine TL_grun rfl rfl ?_
            refine TL_y rfl rfl (Y_field_addr rfl) ?_
            refine TL_grun rfl rfl ?_
            refine TL_y rfl rfl (Y_load rfl rfl) ?_
            refine TL_grun rfl rfl ?_
            refine TL_y rfl rfl (Y_field_addr rfl) ?_
            refine TL_grun rfl rfl ?_
            refine TL_y rfl rfl (Y_field_addr rfl) ?_
            refine TL_grun rfl rfl ?_
            refine TL_y rfl rfl (Y_load rfl rfl) ?_
            refine TL_grun rfl rfl ?_
            refine TL_y rfl rfl (Y_equal rfl rfl (EqIs.bool)) ?_
            refine TL_name 112 (v' := .bool (decide (u.en.noop = m.en.noop))) rfl (by cases u.en.noop <;> cases m.en.noop <;> rfl) ?_
            refine TL_y rfl rfl (Y_pick_t rfl rfl) ?_
            refine TL_y rfl rfl (Y_move rfl) ?_
            refine TL_splitd 114 rfl (fun h114 => ?_) (fun h114 => ?_)
            · refine TL_grun rfl rfl ?_
              refine TL_y rfl rfl (Y_field_addr rfl) ?_
              refine TL_grun rfl rfl ?_
              refine TL_y rfl rfl (Y_load rfl rfl) ?_
              refine TL_grun rfl rfl ?_
              refine TL_y rfl rfl (Y_field_addr rfl) ?_
              refine TL_grun rfl rfl ?_
              refine TL_y rfl rfl (Y_load rfl rfl) ?_
              refine TL_grun rfl rfl ?_
              refine TL_y rfl rfl (Y_str_eq rfl rfl) ?_
              refine TL_y rfl rfl (Y_pick_t rfl rfl) ?_
              refine TL_y rfl rfl (Y_move rfl) ?_
              refine TL_splitd 121 rfl (fun h121 => ?_) (fun h121 => ?_)
              · refine TL_grun rfl rfl ?_
                refine TL_y rfl rfl (Y_field_addr rfl) ?_
                refine TL_grun rfl rfl ?_
                refine TL_y rfl rfl (Y_load rfl rfl) ?_
                refine TL_grun rfl rfl ?_
                refine TL_y rfl rfl (Y_field_addr rfl) ?_
                refine TL_grun rfl rfl ?_
                refine TL_y rfl rfl (Y_load rfl rfl) ?_
                refine TL_grun rfl rfl ?_
                refine TL_y rfl rfl (Y_str_eq rfl rfl) ?_
                refine TL_y rfl rfl (Y_pick_t rfl rfl) ?_
                refine TL_y rfl rfl (Y_move rfl) ?_
                refine TL_splitd 128 rfl (fun h128 => ?_) (fun h128 => ?_)
                · refine TL_grun rfl rfl ?_
                  refine TL_y rfl rfl (Y_field_addr rfl) ?_
                  refine TL_grun rfl rfl ?_
                  refine TL_y rfl rfl (Y_load rfl rfl) ?_
                  refine TL_grun rfl rfl ?_
                  refine TL_y rfl rfl (Y_field_addr rfl) ?_
                  refine TL_grun rfl rfl ?_
                  refine TL_y rfl rfl (Y_load rfl rfl) ?_
                  refine TL_grun rfl rfl ?_
                  refine TL_y rfl rfl (Y_eq rfl rfl) ?_
                  refine TL_y rfl rfl (Y_pick_t rfl rfl) ?_
                  refine TL_y rfl rfl (Y_move rfl) ?_
                  refine TL_splitd 135 rfl (fun h135 => ?_) (fun h135 => ?_)
                  · refine TL_grun rfl rfl ?_
                    refine TL_y rfl rfl (Y_field_addr rfl) ?_
                    refine TL_grun rfl rfl ?_
                    refine TL_y rfl rfl (Y_load rfl rfl) ?_
                    refine TL_grun rfl rfl ?_
                    refine TL_y rfl rfl (Y_field_addr rfl) ?_
                    refine TL_grun rfl rfl ?_
                    refine TL_y rfl rfl (Y_load rfl rfl) ?_
                    refine TL_grun rfl rfl ?_
                    refine TL_call rfl rfl (equalInts_spec sln (SlN.of_gives GivesTo.g hk.cut.n)) ?_
                    rintro _ _ ⟨rfl, rfl⟩
                    refine TL_y rfl rfl (Y_pick_t rfl rfl) ?_
                    refine TL_chain_end rfl ?_ (by repeat (first | exact sub_refl | refine sub_ext rfl ?_)) GivesTo.g
                    exact congrArg Value.bool (decide_eq_decide.2 (by rw [en_eq]; simp_all))
                  · refine TL_gskip rfl rfl rfl rfl ?_
                    refine TL_gskip rfl rfl rfl rfl ?_
                    refine TL_gskip rfl rfl rfl rfl ?_
                    refine TL_gskip rfl rfl rfl rfl ?_
                    refine TL_gskip rfl rfl rfl rfl ?_
                    refine TL_y rfl rfl (Y_pick_f rfl rfl) ?_
                    refine TL_chain_end rfl ?_ (by repeat (first | exact sub_refl | refine sub_ext rfl ?_)) GivesTo.g
                    exact congrArg Value.bool (decide_eq_false (by rw [en_eq]; simp_all)).symm
                · refine TL_gskip rfl rfl rfl rfl ?_
                  refine TL_gskip rfl rfl rfl rfl ?_
                  refine TL_gskip rfl rfl rfl rfl ?_
                  refine TL_gskip rfl rfl rfl rfl ?_
                  refine TL_gskip rfl rfl rfl rfl ?_
                  refine TL_y rfl rfl (Y_pick_f rfl rfl) ?_
                  refine TL_y rfl rfl (Y_move rfl) ?_
                  refine TL_gskip rfl rfl rfl rfl ?_
                  refine TL_gskip rfl rfl rfl rfl ?_
                  refine TL_gskip rfl rfl rfl rfl ?_
                  refine TL_gskip rfl rfl rfl rfl ?_
                  refine TL_gskip rfl rfl rfl rfl ?_
                  refine TL_y rfl rfl (Y_pick_f rfl rfl) ?_
                  refine TL_chain_end rfl ?_ (by repeat (first | exact sub_refl | refine sub_ext rfl ?_)) GivesTo.g
                  exact congrArg Value.bool (decide_eq_false (by rw [en_eq]; simp_all)).symm
              · refine TL_gskip rfl rfl rfl rfl ?_
                refine TL_gskip rfl rfl rfl rfl ?_
                refine TL_gskip rfl rfl rfl rfl ?_
                refine TL_gskip rfl rfl rfl rfl ?_
                refine TL_gskip rfl rfl rfl rfl ?_
                refine TL_y rfl rfl (Y_pick_f rfl rfl) ?_
                refine TL_y rfl rfl (Y_move rfl) ?_
                refine TL_gskip rfl rfl rfl rfl ?_
                refine TL_gskip rfl rfl rfl rfl ?_
                refine TL_gskip rfl rfl rfl rfl ?_
                refine TL_gskip rfl rfl rfl rfl ?_
                refine TL_gskip rfl rfl rfl rfl ?_
                refine TL_y rfl rfl (Y_pick_f rfl rfl) ?_
                refine TL_y rfl rfl (Y_move rfl) ?_
                refine TL_gskip rfl rfl rfl rfl ?_
                refine TL_gskip rfl rfl rfl rfl ?_
                refine TL_gskip rfl rfl rfl rfl ?_
                refine TL_gskip rfl rfl rfl rfl ?_
                refine TL_gskip rfl rfl rfl rfl ?_
                refine TL_y rfl rfl (Y_pick_f rfl rfl) ?_
                refine TL_chain_end rfl ?_ (by repeat (first | exact sub_refl | refine sub_ext rfl ?_)) GivesTo.g
                exact congrArg Value.bool (decide_eq_false (by rw [en_eq]; simp_all)).symm
            · refine TL_gskip rfl rfl rfl rfl ?_
              refine TL_gskip rfl rfl rfl rfl ?_
              refine TL_gskip rfl rfl rfl rfl ?_
              refine TL_gskip rfl rfl rfl rfl ?_
              refine TL_gskip rfl rfl rfl rfl ?_
              refine TL_y rfl rfl (Y_pick_f rfl rfl) ?_
              refine TL_y rfl rfl (Y_move rfl) ?_
              refine TL_gskip rfl rfl rfl rfl ?_
              refine TL_gskip rfl rfl rfl rfl ?_
              refine TL_gskip rfl rfl rfl rfl ?_
              refine TL_gskip rfl rfl rfl rfl ?_
              refine TL_gskip rfl rfl rfl rfl ?_
              refine TL_y rfl rfl (Y_pick_f rfl rfl) ?_
              refine TL_y rfl rfl (Y_move rfl) ?_
              refine TL_gskip rfl rfl rfl rfl ?_
              refine TL_gskip rfl rfl rfl rfl ?_
              refine TL_gskip rfl rfl rfl rfl ?_
              refine TL_gskip rfl rfl rfl rfl ?_
              refine TL_gskip rfl rfl rfl rfl ?_
              refine TL_y rfl rfl (Y_pick_f rfl rfl) ?_
              refine TL_y rfl rfl (Y_move rfl) ?_
              refine TL_gskip rfl rfl rfl rfl ?_
              refine TL_gskip rfl rfl rfl rfl ?_
              refine TL_gskip rfl rfl rfl rfl ?_
              refine TL_gskip rfl rfl rfl rfl ?_
              refine TL_gskip rfl rfl rfl rfl ?_
              refine TL_y rfl rfl (Y_pick_f rfl rfl) ?_
              refine TL_chain_end rfl ?_ (by repeat (first | exact sub_refl | refine sub_ext rfl ?_)) GivesTo.g
              exact congrArg Value.bool (decide_eq_false (by rw [en_eq]; simp_all)).symm
          · refine TL_gskip rfl rfl rfl rfl ?_
            refine TL_gskip rfl rfl rfl rfl ?_
            refine TL_gskip rfl rfl rfl rfl ?_
            refine TL_gskip rfl rfl rfl rfl ?_
            refine TL_gskip rfl rfl rfl rfl ?_
            refine TL_gskip rfl rfl rfl rfl ?_
            refine TL_gskip rfl rfl rfl rfl ?_
            refine TL_y rfl rfl (Y_pick_f rfl rfl) ?_
            refine TL_y rfl rfl (Y_move rfl) ?_
            refine TL_gskip rfl rfl rfl rfl ?_
            refine TL_gskip rfl rfl rfl rfl ?_
            refine TL_gskip rfl rfl rfl rfl ?_
            refine TL_gskip rfl rfl rfl rfl ?_
            refine TL_gskip rfl rfl rfl rfl ?_
            refine TL_y rfl rfl (Y_pick_f rfl rfl) ?_
            refine TL_y rfl rfl (Y_move rfl) ?_
            refine TL_gskip rfl rfl rfl rfl ?_
            refine TL_gskip rfl rfl rfl rfl ?_
            refine TL_gskip rfl rfl rfl rfl ?_
            refine TL_gskip rfl rfl rfl rfl ?_
            refine TL_gskip rfl rfl rfl rfl ?_
            refine TL_y rfl rfl (Y_pick_f rfl rfl) ?_
            refine TL_y rfl rfl (Y_move rfl) ?_
            refine TL_gskip rfl rfl rfl rfl ?_
            refine TL_gskip rfl rfl rfl rfl ?_
            refine TL_gskip rfl rfl rfl rfl ?_
            refine TL_gskip rfl rfl rfl rfl ?_
            refine TL_gskip rfl rfl rfl rfl ?_
            refine TL_y rfl rfl (Y_pick_f rfl rfl) ?_
            refine TL_y rfl rfl (Y_move rfl) ?_
            refine TL_gskip rfl rfl rfl rfl ?_
            refine TL_gskip rfl rfl rfl rfl ?_
            refine TL_gskip rfl rfl rfl rfl ?_
            refine TL_gskip rfl rfl rfl rfl ?_
            refine TL_gskip rfl rfl rfl rfl ?_
            refine TL_y rfl rfl (Y_pick_f rfl rfl) ?_
            refine TL_chain_end rfl ?_ (by repeat (first | exact sub_refl | refine sub_ext rfl ?_)) GivesTo.g
            exact congrArg Value.bool (decide_eq_false (by rw [en_eq]; simp_all)).symm
        refine TL_y rfl rfl (Y_assign rfl) ?_
        refine TL_nil ?_
        refine T_region_last ?_
        refine TL_y rfl rfl (Y_move rfl) ?_
        refine TL_y rfl rfl (Y_move rfl) ?_
        refine TL_splitd 143 rfl (fun h143 => ?_) (fun h143 => ?_)
        · refine TL_gskip rfl rfl rfl rfl ?_
          refine TL_gskip rfl rfl rfl rfl ?_
          refine TL_y rfl rfl (Y_pick_t rfl rfl) ?_
          refine TL_y rfl rfl (Y_assign rfl) ?_
          refine TL_nil ?_
          refine thenS_normal ?_
          refine T_seq ?_
          refine T_region ?_
          refine TL_y rfl rfl (Y_move rfl) ?_
          refine TL_y rfl rfl (Y_not_t rfl) ?_
          refine TL_nil ?_
          refine T_cond_false rfl ?_
          refine T_skip ?_
          refine thenS_normal ?_
          refine T_region ?_
          refine TL_y rfl rfl (Y_move rfl) ?_
          refine TL_y rfl rfl (Y_bytes_strN rfl sln) ?_
          refine TL_y rfl rfl (Y_build rfl rfl) ?_
          refine TL_store rfl rfl rfl rfl rfl rfl ?_
          refine TL_nil ?_
          refine T_ret ?_
          have hch : chgA s m := by unfold chgA; rw [hg]; simp only [ne_eq, Option.some.injEq, hkey]; simp_all
          have hj : judgeV s m = .agg #[.string (strOfNums (outB (wMsg m ([], false)))), .bool true, .bool false] := by unfold judgeV recA; rw [if_pos ⟨hm, hn, hch⟩, decide_eq_true hm, decide_eq_false (fun h => hn h.2)]
          rw [hj]
          refine RetQ.gives (ac_close b s hi) ?_
          exact RetG_1 (.inl rfl) rfl (ResV.agg rfl rfl) GivesTo.g (⟨rfl, rfl⟩)
        · refine TL_grun rfl rfl ?_
          refine TL_y rfl rfl (Y_move rfl) ?_
          refine TL_grun rfl rfl ?_
          refine TL_y rfl rfl (Y_not_d rfl) ?_
          refine TL_y rfl rfl (Y_pick_f rfl rfl) ?_
          refine TL_y rfl rfl (Y_assign rfl) ?_
          refine TL_nil ?_
          refine thenS_normal ?_
          refine T_seq ?_
          refine T_region ?_
          refine TL_y rfl rfl (Y_move rfl) ?_
          refine TL_y rfl rfl (Y_not_d rfl) ?_
          refine TL_nil ?_
          refine T_if rfl (fun h148 => ?_) (fun h148 => ?_)
          · refine T_region_last ?_
            refine TL_y rfl rfl (Y_assign rfl) ?_
            refine TL_nil ?_
            refine thenS_normal ?_
            refine T_region ?_
            refine TL_y rfl rfl (Y_move rfl) ?_
            refine TL_name 149 (v' := .slice none ([] : List Int).length 0) rfl (rfl) ?_
            refine TL_y rfl rfl (Y_bytes_strN (A := none) (c := 0) (xs := []) rfl .nil) ?_
            refine TL_y rfl rfl (Y_build rfl rfl) ?_
            refine TL_store rfl rfl rfl rfl rfl rfl ?_
            refine TL_nil ?_
            refine T_ret ?_
            have hch : ¬ chgA s m := by unfold chgA; rw [hg]; simp only [ne_eq, Option.some.injEq, hkey]; simp_all
            have hj : judgeV s m = .agg #[.string (strOfNums []), .bool true, .bool false] := by unfold judgeV recA; rw [if_neg (fun h => hch h.2.2), decide_eq_true hm, decide_eq_false (fun h => hn h.2)]; rfl
            rw [hj]
            refine RetQ.gives (ac_close b s hi) ?_
            exact RetG_1 (.inl rfl) rfl (ResV.agg rfl rfl) GivesTo.g (⟨rfl, rfl⟩)
          · refine T_skip ?_
            refine thenS_normal ?_
            refine T_region ?_
            refine TL_y rfl rfl (Y_move rfl) ?_
            refine TL_y rfl rfl (Y_bytes_strN rfl sln) ?_
            refine TL_y rfl rfl (Y_build rfl rfl) ?_
            refine TL_store rfl rfl rfl rfl rfl rfl ?_
            refine TL_nil ?_
            refine T_ret ?_
            have hch : chgA s m := by unfold chgA; rw [hg]; simp only [ne_eq, Option.some.injEq, hkey]; simp_all
            have hj : judgeV s m = .agg #[.string (strOfNums (outB (wMsg m ([], false)))), .bool true, .bool false] := by unfold judgeV recA; rw [if_pos ⟨hm, hn, hch⟩, decide_eq_true hm, decide_eq_false (fun h => hn h.2)]
            rw [hj]
            refine RetQ.gives (ac_close b s hi) ?_
            exact RetG_1 (.inl rfl) rfl (ResV.agg rfl rfl) GivesTo.g (⟨rfl, rfl⟩)
      · refine RD_leaf _ [0, 1, 3, 0, 8, 24, 128, 0, 199, 511] [] [(0, true), (1, true), (2, true), (3, true), (4, true), (5, true), (7, false), (6, false), (8, false), (9, false)] (by decide +kernel) (Gives.refl _) ?_
        refine TF_y rfl rfl (Y_field_addr rfl) ?_
        refine TF_y rfl rfl (Y_field_addr rfl) ?_
        refine TF_y rfl rfl (Y_load_agg rfl rfl) ?_
        refine TF_y rfl rfl (Y_field_addr rfl) ?_
        refine TF_y rfl rfl (Y_field_addr rfl) ?_
        refine TF_y rfl rfl (Y_load_agg rfl rfl) ?_
        refine TF_anchor rfl ?_
        refine TL_alloc rfl rfl ?_
        intro b12
        refine TF_end GivesTo.g ?_
        refine TF_anchor rfl ?_
        refine TL_alloc rfl rfl ?_
        intro b11
        refine TF_end GivesTo.g ?_
        refine TF_anchor rfl ?_
        refine TL_store rfl rfl rfl rfl rfl rfl ?_
        refine TF_end GivesTo.g ?_
        refine TF_anchor rfl ?_
        refine TL_store rfl rfl rfl rfl rfl rfl ?_
        refine TF_end GivesTo.g ?_
        refine TF_nil ?_
        refine thenS_normal ?_
        refine T_region ?_
        refine TL_both 45 141 (u.bal = m.bal ∧ u.en = m.en) ?_ ?_
        · refine TL_y rfl rfl (Y_move rfl) ?_
          refine TL_y rfl rfl (Y_move rfl) ?_
          refine TL_grun rfl rfl ?_
          refine TL_y rfl rfl (Y_field_addr rfl) ?_
          refine TL_grun rfl rfl ?_
          refine TL_y rfl rfl (Y_load_agg rfl rfl) ?_
          refine TL_grun rfl rfl ?_
          refine TL_y rfl rfl (Y_field_addr rfl) ?_
          refine TL_grun rfl rfl ?_
          refine TL_y rfl rfl (Y_load_agg rfl rfl) ?_
          refine TL_grun rfl rfl ?_
          refine TL_y rfl rfl (Y_eq_bal rfl rfl) ?_
          refine TL_y rfl rfl (Y_pick_t rfl rfl) ?_
          refine TL_y rfl rfl (Y_move rfl) ?_
          refine TL_splitd 105 rfl (fun h105 => ?_) (fun h105 => ?_)
          · refine TL_grun rfl rfl ?_
            refine TL_y rfl rfl (Y_field_addr rfl) ?_
            refine TL_grun rfl rfl ?_
            refine TL_y rfl rfl (Y_field_addr rfl) ?_
            refine TL_grun rfl rfl ?_
            refine TL_y rfl rfl (Y_load rfl rfl) ?_
            refine TL_grun rfl rfl ?_
            refine TL_y rfl rfl (Y_field_addr rfl) ?_
            refine TL_grun rfl rfl ?_
            refine TL_y rfl rfl (Y_field_addr rfl) ?_
            refine TL_grun rfl rfl ?_
            refine TL_y rfl rfl (Y_load rfl rfl) ?_
            refine TL_grun rfl rfl ?_
            refine TL_y rfl rfl (Y_equal rfl rfl (EqIs.bool)) ?_
            refine TL_name 112 (v' := .bool (decide (u.en.noop = m.en.noop))) rfl (by cases u.en.noop <;> cases m.en.noop <;> rfl) ?_
            refine TL_y rfl rfl (Y_pick_t rfl rfl) ?_
            refine TL_y rfl rfl (Y_move rfl) ?_
            refine TL_splitd 114 rfl (fun h114 => ?_) (fun h114 => ?_)
            · refine TL_grun rfl rfl ?_
              refine TL_y rfl rfl (Y_field_addr rfl) ?_
              refine TL_grun rfl rfl ?_
              refine TL_y rfl rfl (Y_load rfl rfl) ?_
              refine TL_grun rfl rfl ?_
              refine TL_y rfl rfl (Y_field_addr rfl) ?_
              refine TL_grun rfl rfl ?_
              refine TL_y rfl rfl (Y_load rfl rfl) ?_
              refine TL_grun rfl rfl ?_
              refine TL_y rfl rfl (Y_str_eq rfl rfl) ?_
              refine TL_y rfl rfl (Y_pick_t rfl rfl) ?_
              refine TL_y rfl rfl (Y_move rfl) ?_
              refine TL_splitd 121 rfl (fun h121 => ?_) (fun h121 => ?_)
              · refine TL_grun rfl rfl ?_
                refine TL_y rfl rfl (Y_field_addr rfl) ?_
                refine TL_grun rfl rfl ?_
                refine TL_y rfl rfl (Y_load rfl rfl) ?_
                refine TL_grun rfl rfl ?_
                refine TL_y rfl rfl (Y_field_addr rfl) ?_
                refine TL_grun rfl rfl ?_
                refine TL_y rfl rfl (Y_load rfl rfl) ?_
                refine TL_grun rfl rfl ?_
                refine TL_y rfl rfl (Y_str_eq rfl rfl) ?_
                refine TL_y rfl rfl (Y_pick_t rfl rfl) ?_
                refine TL_y rfl rfl (Y_move rfl) ?_
                refine TL_splitd 128 rfl (fun h128 => ?_) (fun h128 => ?_)
                · refine TL_grun rfl rfl ?_
                  refine TL_y rfl rfl (Y_field_addr rfl) ?_
                  refine TL_grun rfl rfl ?_
                  refine TL_y rfl rfl (Y_load rfl rfl) ?_
                  refine TL_grun rfl rfl ?_
                  refine TL_y rfl rfl (Y_field_addr rfl) ?_
                  refine TL_grun rfl rfl ?_
                  refine TL_y rfl rfl (Y_load rfl rfl) ?_
                  refine TL_grun rfl rfl ?_
                  refine TL_y rfl rfl (Y_eq rfl rfl) ?_
                  refine TL_y rfl rfl (Y_pick_t rfl rfl) ?_
                  refine TL_y rfl rfl (Y_move rfl) ?_
                  refine TL_splitd 135 rfl (fun h135 => ?_) (fun h135 => ?_)
                  · refine TL_grun rfl rfl ?_
                    refine TL_y rfl rfl (Y_field_addr rfl) ?_
                    refine TL_grun rfl rfl ?_
                    refine TL_y rfl rfl (Y_load rfl rfl) ?_
                    refine TL_grun rfl rfl ?_
                    refine TL_y rfl rfl (Y_field_addr rfl) ?_
                    refine TL_grun rfl rfl ?_
                    refine TL_y rfl rfl (Y_load rfl rfl) ?_
                    refine TL_grun rfl rfl ?_
                    refine TL_call rfl rfl (equalInts_spec sln (SlN.of_gives GivesTo.g hk.cut.n)) ?_
                    rintro _ _ ⟨rfl, rfl⟩
                    refine TL_y rfl rfl (Y_pick_t rfl rfl) ?_
                    refine TL_chain_end rfl ?_ (by repeat (first | exact sub_refl | refine sub_ext rfl ?_)) GivesTo.g
                    exact congrArg Value.bool (decide_eq_decide.2 (by rw [en_eq]; simp_all))
                  · refine TL_gskip rfl rfl rfl rfl ?_
                    refine TL_gskip rfl rfl rfl rfl ?_
                    refine TL_gskip rfl rfl rfl rfl ?_
                    refine TL_gskip rfl rfl rfl rfl ?_
                    refine TL_gskip rfl rfl rfl rfl ?_
                    refine TL_y rfl rfl (Y_pick_f rfl rfl) ?_
                    refine TL_chain_end rfl ?_ (by repeat (first | exact sub_refl | refine sub_ext rfl ?_)) GivesTo.g
                    exact congrArg Value.bool (decide_eq_false (by rw [en_eq]; simp_all)).symm
                · refine TL_gskip rfl rfl rfl rfl ?_
                  refine TL_gskip rfl rfl rfl rfl ?_
                  refine TL_gskip rfl rfl rfl rfl ?_
                  refine TL_gskip rfl rfl rfl rfl ?_
                  refine TL_gskip rfl rfl rfl rfl ?_
                  refine TL_y rfl rfl (Y_pick_f rfl rfl) ?_
                  refine TL_y rfl rfl (Y_move rfl) ?_
                  refine TL_gskip rfl rfl rfl rfl ?_
                  refine TL_gskip rfl rfl rfl rfl ?_
                  refine TL_gskip rfl rfl rfl rfl ?_
                  refine TL_gskip rfl rfl rfl rfl ?_
                  refine TL_gskip rfl rfl rfl rfl ?_
                  refine TL_y rfl rfl (Y_pick_f rfl rfl) ?_
                  refine TL_chain_end rfl ?_ (by repeat (first | exact sub_refl | refine sub_ext rfl ?_)) GivesTo.g
                  exact congrArg Value.bool (decide_eq_false (by rw [en_eq]; simp_all)).symm
              · refine TL_gskip rfl rfl rfl rfl ?_
                refine TL_gskip rfl rfl rfl rfl ?_
                refine TL_gskip rfl rfl rfl rfl ?_
                refine TL_gskip rfl rfl rfl rfl ?_
                refine TL_gskip rfl rfl rfl rfl ?_
                refine TL_y rfl rfl (Y_pick_f rfl rfl) ?_
                refine TL_y rfl rfl (Y_move rfl) ?_
                refine TL_gskip rfl rfl rfl rfl ?_
                refine TL_gskip rfl rfl rfl rfl ?_
                refine TL_gskip rfl rfl rfl rfl ?_
                refine TL_gskip rfl rfl rfl rfl ?_
                refine TL_gskip rfl rfl rfl rfl ?_
                refine TL_y rfl rfl (Y_pick_f rfl rfl) ?_
                refine TL_y rfl rfl (Y_move rfl) ?_
                refine TL_gskip rfl rfl rfl rfl ?_
                refine TL_gskip rfl rfl rfl rfl ?_
                refine TL_gskip rfl rfl rfl rfl ?_
                refine TL_gskip rfl rfl rfl rfl ?_
                refine TL_gskip rfl rfl rfl rfl ?_
                refine TL_y rfl rfl (Y_pick_f rfl rfl) ?_
                refine TL_chain_end rfl ?_ (by repeat (first | exact sub_refl | refine sub_ext rfl ?_)) GivesTo.g
                exact congrArg Value.bool (decide_eq_false (by rw [en_eq]; simp_all)).symm
            · refine TL_gskip rfl rfl rfl rfl ?_
              refine TL_gskip rfl rfl rfl rfl ?_
              refine TL_gskip rfl rfl rfl rfl ?_
              refine TL_gskip rfl rfl rfl rfl ?_
              refine TL_gskip rfl rfl rfl rfl ?_
              refine TL_y rfl rfl (Y_pick_f rfl rfl) ?_
              refine TL_y rfl rfl (Y_move rfl) ?_
              refine TL_gskip rfl rfl rfl rfl ?_
              refine TL_gskip rfl rfl rfl rfl ?_
              refine TL_gskip rfl rfl rfl rfl ?_
              refine TL_gskip rfl rfl rfl rfl ?_
              refine TL_gskip rfl rfl rfl rfl ?_
              refine TL_y rfl rfl (Y_pick_f rfl rfl) ?_
              refine TL_y rfl rfl (Y_move rfl) ?_
              refine TL_gskip rfl rfl rfl rfl ?_
              refine TL_gskip rfl rfl rfl rfl ?_
              refine TL_gskip rfl rfl rfl rfl ?_
              refine TL_gskip rfl rfl rfl rfl ?_
              refine TL_gskip rfl rfl rfl rfl ?_
              refine TL_y rfl rfl (Y_pick_f rfl rfl) ?_
              refine TL_y rfl rfl (Y_move rfl) ?_
              refine TL_gskip rfl rfl rfl rfl ?_
              refine TL_gskip rfl rfl rfl rfl ?_
              refine TL_gskip rfl rfl rfl rfl ?_
              refine TL_gskip rfl rfl rfl rfl ?_
              refine TL_gskip rfl rfl rfl rfl ?_
              refine TL_y rfl rfl (Y_pick_f rfl rfl) ?_
              refine TL_chain_end rfl ?_ (by repeat (first | exact sub_refl | refine sub_ext rfl ?_)) GivesTo.g
              exact congrArg Value.bool (decide_eq_false (by rw [en_eq]; simp_all)).symm
          · refine TL_gskip rfl rfl rfl rfl ?_
            refine TL_gskip rfl rfl rfl rfl ?_
            refine TL_gskip rfl rfl rfl rfl ?_
            refine TL_gskip rfl rfl rfl rfl ?_
            refine TL_gskip rfl rfl rfl rfl ?_
            refine TL_gskip rfl rfl rfl rfl ?_
            refine TL_gskip rfl rfl rfl rfl ?_
            refine TL_y rfl rfl (Y_pick_f rfl rfl) ?_
            refine TL_y rfl rfl (Y_move rfl) ?_
            refine TL_gskip rfl rfl rfl rfl ?_
            refine TL_gskip rfl rfl rfl rfl ?_
            refine TL_gskip rfl rfl rfl rfl ?_
            refine TL_gskip rfl rfl rfl rfl ?_
            refine TL_gskip rfl rfl rfl rfl ?_
            refine TL_y rfl rfl (Y_pick_f rfl rfl) ?_
            refine TL_y rfl rfl (Y_move rfl) ?_
            refine TL_gskip rfl rfl rfl rfl ?_
            refine TL_gskip rfl rfl rfl rfl ?_
            refine TL_gskip rfl rfl rfl rfl ?_
            refine TL_gskip rfl rfl rfl rfl ?_
            refine TL_gskip rfl rfl rfl rfl ?_
            refine TL_y rfl rfl (Y_pick_f rfl rfl) ?_
            refine TL_y rfl rfl (Y_move rfl) ?_
            refine TL_gskip rfl rfl rfl rfl ?_
            refine TL_gskip rfl rfl rfl rfl ?_
            refine TL_gskip rfl rfl rfl rfl ?_
            refine TL_gskip rfl rfl rfl rfl ?_
            refine TL_gskip rfl rfl rfl rfl ?_
            refine TL_y rfl rfl (Y_pick_f rfl rfl) ?_
            refine TL_y rfl rfl (Y_move rfl) ?_
            refine TL_gskip rfl rfl rfl rfl ?_
            refine TL_gskip rfl rfl rfl rfl ?_
            refine TL_gskip rfl rfl rfl rfl ?_
            refine TL_gskip rfl rfl rfl rfl ?_
            refine TL_gskip rfl rfl rfl rfl ?_
            refine TL_y rfl rfl (Y_pick_f rfl rfl) ?_
            refine TL_chain_end rfl ?_ (by repeat (first | exact sub_refl | refine sub_ext rfl ?_)) GivesTo.g
            exact congrArg Value.bool (decide_eq_false (by rw [en_eq]; simp_all)).symm
        refine TL_y rfl rfl (Y_assign rfl) ?_
        refine TL_nil ?_
        refine T_region_last ?_
        refine TL_y rfl rfl (Y_move rfl) ?_
        refine TL_y rfl rfl (Y_move rfl) ?_
        refine TL_splitd 143 rfl (fun h143 => ?_) (fun h143 => ?_)
        · refine TL_gskip rfl rfl rfl rfl ?_
          refine TL_gskip rfl rfl rfl rfl ?_
          refine TL_y rfl rfl (Y_pick_t rfl rfl) ?_
          refine TL_y rfl rfl (Y_assign rfl) ?_
          refine TL_nil ?_
          refine thenS_normal ?_
          refine T_seq ?_
          refine T_region ?_
          refine TL_y rfl rfl (Y_move rfl) ?_
          refine TL_y rfl rfl (Y_not_t rfl) ?_
          refine TL_nil ?_
          refine T_cond_false rfl ?_
          refine T_skip ?_
          refine thenS_normal ?_
          refine T_region ?_
          refine TL_y rfl rfl (Y_move rfl) ?_
          refine TL_y rfl rfl (Y_bytes_strN rfl sln) ?_
          refine TL_y rfl rfl (Y_build rfl rfl) ?_
          refine TL_store rfl rfl rfl rfl rfl rfl ?_
          refine TL_nil ?_
          refine T_ret ?_
          have hch : chgA s m := by unfold chgA; rw [hg]; simp only [ne_eq, Option.some.injEq, hkey]; simp_all
          have hj : judgeV s m = .agg #[.string (strOfNums (outB (wMsg m ([], false)))), .bool true, .bool false] := by unfold judgeV recA; rw [if_pos ⟨hm, hn, hch⟩, decide_eq_true hm, decide_eq_false (fun h => hn h.2)]
          rw [hj]
          refine RetQ.gives (ac_close b s hi) ?_
          exact RetG_1 (.inl rfl) rfl (ResV.agg rfl rfl) GivesTo.g (⟨rfl, rfl⟩)
        · refine TL_grun rfl rfl ?_
          refine TL_y rfl rfl (Y_move rfl) ?_
          refine TL_grun rfl rfl ?_
          refine TL_y rfl rfl (Y_not_d rfl) ?_
          refine TL_y rfl rfl (Y_pick_f rfl rfl) ?_
          refine TL_y rfl rfl (Y_assign rfl) ?_
          refine TL_nil ?_
          refine thenS_normal ?_
          refine T_seq ?_
          refine T_region ?_
          refine TL_y rfl rfl (Y_move rfl) ?_
          refine TL_y rfl rfl (Y_not_d rfl) ?_
          refine TL_nil ?_
          refine T_if rfl (fun h148 => ?_) (fun h148 => ?_)
          · refine T_region_last ?_
            refine TL_y rfl rfl (Y_assign rfl) ?_
            refine TL_nil ?_
            refine thenS_normal ?_
            refine T_region ?_
            refine TL_y rfl rfl (Y_move rfl) ?_
            refine TL_name 149 (v' := .slice none ([] : List Int).length 0) rfl (rfl) ?_
            refine TL_y rfl rfl (Y_bytes_strN (A := none) (c := 0) (xs := []) rfl .nil) ?_
            refine TL_y rfl rfl (Y_build rfl rfl) ?_
            refine TL_store rfl rfl rfl rfl rfl rfl ?_
            refine TL_nil ?_
            refine T_ret ?_
            have hch : ¬ chgA s m := by unfold chgA; rw [hg]; simp only [ne_eq, Option.some.injEq, hkey]; simp_all
            have hj : judgeV s m = .agg #[.string (strOfNums []), .bool true, .bool false] := by unfold judgeV recA; rw [if_neg (fun h => hch h.2.2), decide_eq_true hm, decide_eq_false (fun h => hn h.2)]; rfl
            rw [hj]
            refine RetQ.gives (ac_close b s hi) ?_
            exact RetG_1 (.inl rfl) rfl (ResV.agg rfl rfl) GivesTo.g (⟨rfl, rfl⟩)
          · refine T_skip ?_
            refine thenS_normal ?_
            refine T_region ?_
            refine TL_y rfl rfl (Y_move rfl) ?_
            refine TL_y rfl rfl (Y_bytes_strN rfl sln) ?_
            refine TL_y rfl rfl (Y_build rfl rfl) ?_
            refine TL_store rfl rfl rfl rfl rfl rfl ?_
            refine TL_nil ?_
            refine T_ret ?_
            have hch : chgA s m := by unfold chgA; rw [hg]; simp only [ne_eq, Option.some.injEq, hkey]; simp_all
            have hj : judgeV s m = .agg #[.string (strOfNums (outB (wMsg m ([], false)))), .bool true, .bool false] := by unfold judgeV recA; rw [if_pos ⟨hm, hn, hch⟩, decide_eq_true hm, decide_eq_false (fun h => hn h.2)]
            rw [hj]
            refine RetQ.gives (ac_close b s hi) ?_
            exact RetG_1 (.inl rfl) rfl (ResV.agg rfl rfl) GivesTo.g (⟨rfl, rfl⟩)
  · refine RD_leaf _ [0, 1, 3, 7, 0, 16, 1087, 1151, 1279, 1279, 0, 1535, 4095] [] [(0, true), (1, true), (2, true), (3, true), (4, true), (5, true), (10, false), (6, false), (7, true), (8, true), (9, true), (11, false), (12, true)] (by decide +kernel) (Gives.refl _) ?_
    refine TF_y rfl rfl (Y_move rfl) ?_
    refine TF_y rfl rfl (Y_nil_check rfl) ?_
    refine TF_y rfl rfl (Y_field_addr rfl) ?_
    refine TF_y rfl rfl (Y_load rfl rfl) ?_
    refine TF_y rfl rfl (Y_field_addr rfl) ?_
    refine TF_y rfl rfl (Y_load rfl rfl) ?_
    refine TF_anchor rfl ?_
    refine TL_alloc rfl rfl ?_
    intro b7
    refine TF_end GivesTo.g ?_
    refine TF_anchor rfl ?_
    refine TL_lookup_okx (R := votedR) (k := m.slot) rfl rfl rfl hx.slot (fun hn => absurd hn (by rw [hg]; simp)) (fun u2 p2 hu hou => ?_)
    rw [hg] at hu
    obtain rfl := Option.some.inj hu
    simp only [List.cons_append, List.nil_append]
    refine TF_end GivesTo.g ?_
    refine TF_y rfl rfl (Y_move rfl) ?_
    refine TF_y rfl rfl (Y_extract rfl rfl) ?_
    refine TF_y rfl rfl (Y_extract rfl rfl) ?_
    refine TF_name 55 (v' := .bool true) rfl (rfl) ?_
    refine TF_anchor rfl ?_
    refine TL_store rfl rfl rfl rfl rfl rfl ?_
    refine TF_end GivesTo.g ?_
    refine TF_y rfl rfl (Y_assign rfl) ?_
    refine TF_nil ?_
    refine thenS_normal ?_
    refine T_region ?_
    refine TL_y rfl rfl (Y_field_addr rfl) ?_
    refine TL_y rfl rfl (Y_load rfl rfl) ?_
    refine TL_y rfl rfl (Y_eq rfl rfl) ?_
    refine TL_name 58 (v' := .bool true) rfl (congrArg Value.bool (decide_eq_true h3)) ?_
    refine TL_y rfl rfl (Y_assign rfl) ?_
    refine TL_nil ?_
    refine T_seq ?_
    refine T_region_draw _ [0, 1, 0, 4, 12, 28, 63, 127, 255, 511, 1023, 2047, 4095, 8191, 16383, 32767, 65535, 131071, 262143, 524287, 1048575, 2097151, 4194303] [] [(0, true), (1, true), (2, true), (3, true), (4, true), (5, true), (6, false), (7, true), (8, true), (9, true), (10, true), (11, true), (12, true), (13, true), (14, true), (15, true), (16, true), (17, true), (18, true), (19, true), (20, true), (21, true), (22, true)] (by kernel_rfl) (by decide +kernel) (Gives.refl _) ?_
    refine TF_y rfl rfl (Y_field_addr rfl) ?_
    refine TF_y rfl rfl (Y_load_agg rfl rfl) ?_
    refine TF_y rfl rfl (Y_move rfl) ?_
    refine TF_y rfl rfl (Y_nil_check rfl) ?_
    refine TF_y rfl rfl (Y_field_addr rfl) ?_
    refine TF_y rfl rfl (Y_load_agg rfl rfl) ?_
    refine TF_anchor rfl ?_
    refine TL_call rfl rfl (compare_spec m.bal s.prom _) ?_
    rintro _ _ ⟨rfl, rfl⟩
    refine TF_end GivesTo.g ?_
    refine TF_y rfl rfl (Y_lt rfl rfl) ?_
    refine TF_y rfl rfl (Y_move rfl) ?_
    refine TF_splitd 67 rfl (fun h67 => ?_) (fun h67 => ?_)
    · refine TF_gskip rfl rfl rfl rfl rfl ?_
      refine TF_gskip rfl rfl rfl rfl rfl ?_
      refine TF_gskip_u rfl rfl rfl rfl ?_
      refine TF_gskip_u rfl rfl rfl rfl ?_
      refine TF_gskip rfl rfl rfl rfl rfl ?_
      refine TF_gskip rfl rfl rfl rfl rfl ?_
      refine TF_gskip_u rfl rfl rfl rfl ?_
      refine TF_gskip_u rfl rfl rfl rfl ?_
      refine TF_gskip_u rfl rfl rfl rfl ?_
      refine TF_gskip_u rfl rfl rfl rfl ?_
      refine TF_gskip_u rfl rfl rfl rfl ?_
      refine TF_gskip_u rfl rfl rfl rfl ?_
      refine TF_gskip rfl rfl rfl rfl rfl ?_
      refine TF_y rfl rfl (Y_pick_t rfl rfl) ?_
      refine TF_nil ?_
      refine T_cond_true rfl ?_
      refine T_region ?_
      refine TL_y rfl rfl (Y_build rfl rfl) ?_
      refine TL_store rfl rfl rfl rfl rfl rfl ?_
      refine TL_nil ?_
      refine T_ret ?_
      refine thenS_ret ?_
      have hn : nackA s m := .inl (by omega)
      have hj : judgeV s m = .agg #[.string ⟨#[]⟩, .bool true, .bool true] := by unfold judgeV recA; rw [if_neg (fun h => h.2.1 hn), decide_eq_true hm, decide_eq_true (And.intro hm hn)]
      rw [hj]
      refine RetQ.gives (ac_close b s hi) ?_
      exact RetG_1 (.inl rfl) rfl (ResV.agg rfl rfl) GivesTo.g (⟨rfl, rfl⟩)
    · refine TF_gy rfl rfl rfl rfl (Y_move rfl) ?_
      refine TF_gy rfl rfl rfl rfl (Y_move rfl) ?_
      refine TF_gy rfl rfl rfl rfl (Y_move rfl) ?_
      refine TF_gy rfl rfl rfl rfl (Y_not_t rfl) ?_
      refine TF_gy rfl rfl rfl rfl (Y_pick_t rfl rfl) ?_
      refine TF_gy rfl rfl rfl rfl (Y_move rfl) ?_
      refine TF_gskip rfl rfl rfl rfl rfl ?_
      refine TF_gskip rfl rfl rfl rfl rfl ?_
      refine TF_gskip rfl rfl rfl rfl rfl ?_
      refine TF_gskip rfl rfl rfl rfl rfl ?_
      refine TF_gskip rfl rfl rfl rfl rfl ?_
      refine TF_gskip rfl rfl rfl rfl rfl ?_
      refine TF_gy rfl rfl rfl rfl (Y_pick_f rfl rfl) ?_
      refine TF_y rfl rfl (Y_pick_f rfl rfl) ?_
      refine TF_nil ?_
      refine T_cond_false rfl ?_
      refine T_skip ?_
      refine thenS_normal ?_
      have hn : ¬ nackA s m := by unfold nackA; rw [hg]; rintro (h | ⟨_, h, _⟩); omega; cases h
      have hkey : u = newV m ↔ u.bal = m.bal ∧ u.en = m.en := by have hus := (vmap_get hg).2; obtain ⟨u1, u2, u3⟩ := u; dsimp only at hus; subst hus; simp [newV]
      refine T_region_draw _ [0, 1, 3, 7, 0, 16, 63, 127] [] [(0, true), (1, true), (2, true), (3, true), (4, true), (5, true), (6, true), (7, true)] (by kernel_rfl) (by decide +kernel) (Gives.refl _) ?_
      refine TF_y rfl rfl (Y_move rfl) ?_
      refine TF_y rfl rfl (Y_nil_check rfl) ?_
      refine TF_y rfl rfl (Y_field_addr rfl) ?_
      refine TF_y rfl rfl (Y_load_agg rfl rfl) ?_
      refine TF_y rfl rfl (Y_field_addr rfl) ?_
      refine TF_y rfl rfl (Y_load_agg rfl rfl) ?_
      refine TF_y rfl rfl (Y_ne_bal rfl rfl) ?_
      refine TF_name 89 (v' := .bool (decide (s.prom ≠ m.bal))) rfl (by by_cases h : s.prom = m.bal <;> simp [h]) ?_
      refine TF_y rfl rfl (Y_assign rfl) ?_
      refine TF_nil ?_
      refine T_seq ?_
      refine T_region ?_
      refine TL_y rfl rfl (Y_move rfl) ?_
      refine TL_nil ?_
      refine T_cond_true rfl ?_
      refine T_rd [0, 1, 3, 0, 8, 24, 0, 0, 199, 511] (by kernel_rfl) (by decide +kernel) ?_
      refine RD_pair 6 7 (by decide) ?_ ?_
      · refine RD_leaf _ [0, 1, 3, 0, 8, 24, 0, 64, 199, 511] [] [(0, true), (1, true), (2, true), (3, true), (4, true), (5, true), (6, false), (7, false), (8, false), (9, false)] (by decide +kernel) (Gives.refl _) ?_
        refine TF_y rfl rfl (Y_field_addr rfl) ?_
        refine TF_y rfl rfl (Y_field_addr rfl) ?_
        refine TF_y rfl rfl (Y_load_agg rfl rfl) ?_
        refine TF_y rfl rfl (Y_field_addr rfl) ?_
        refine TF_y rfl rfl (Y_field_addr rfl) ?_
        refine TF_y rfl rfl (Y_load_agg rfl rfl) ?_
        refine TF_anchor rfl ?_
        refine TL_alloc rfl rfl ?_
        intro b11
        refine TF_end GivesTo.g ?_
        refine TF_anchor rfl ?_
        refine TL_alloc rfl rfl ?_
        intro b12
        refine TF_end GivesTo.g ?_
        refine TF_anchor rfl ?_
        refine TL_store rfl rfl rfl rfl rfl rfl ?_
        refine TF_end GivesTo.g ?_
        refine TF_anchor rfl ?_
        refine TL_store rfl rfl rfl rfl rfl rfl ?_
        refine TF_end GivesTo.g ?_
        refine TF_nil ?_
        refine thenS_normal ?_
        refine T_region ?_
        refine TL_both 45 141 (u.bal = m.bal ∧ u.en = m.en) ?_ ?_
        · refine TL_y rfl rfl (Y_move rfl) ?_
          refine TL_y rfl rfl (Y_move rfl) ?_
          refine TL_grun rfl rfl ?_
          refine TL_y rfl rfl (Y_field_addr rfl) ?_
          refine TL_grun rfl rfl ?_
          refine TL_y rfl rfl (Y_load_agg rfl rfl) ?_
          refine TL_grun rfl rfl ?_
          refine TL_y rfl rfl (Y_field_addr rfl) ?_
          refine TL_grun rfl rfl ?_
          refine TL_y rfl rfl (Y_load_agg rfl rfl) ?_
          refine TL_grun rfl rfl ?_
          refine TL_y rfl rfl (Y_eq_bal rfl rfl) ?_
          refine TL_y rfl rfl (Y_pick_t rfl rfl) ?_
          refine TL_y rfl rfl (Y_move rfl) ?_
          refine TL_splitd 105 rfl (fun h105 => ?_) (fun h105 => ?_)
          · refine TL_grun rfl rfl ?_
            refine TL_y rfl rfl (Y_field_addr rfl) ?_
            refine TL_grun rfl rfl ?_
            refine TL_y rfl rfl (Y_field_addr rfl) ?_
            refine TL_grun rfl rfl ?_
            refine TL_y rfl rfl (Y_load rfl rfl) ?_
            refine TL_grun rfl rfl ?_
            refine TL_y rfl rfl (Y_field_addr rfl) ?_
            refine TL_grun rfl rfl ?_
            refine TL_y rfl rfl (Y_field_addr rfl) ?_
            refine TL_grun rfl rfl ?_
            refine TL_y rfl rfl (Y_load rfl rfl) ?_
            refine TL_grun rfl rfl ?_
            refine TL_y rfl rfl (Y_equal rfl rfl (EqIs.bool)) ?_
            refine TL_name 112 (v' := .bool (decide (u.en.noop = m.en.noop))) rfl (by cases u.en.noop <;> cases m.en.noop <;> rfl) ?_
            refine TL_y rfl rfl (Y_pick_t rfl rfl) ?_
            refine TL_y rfl rfl (Y_move rfl) ?_
            refine TL_splitd 114 rfl (fun h114 => ?_) (fun h114 => ?_)
            · refine TL_grun rfl rfl ?_
              refine TL_y rfl rfl (Y_field_addr rfl) ?_
              refine TL_grun rfl rfl ?_
              refine TL_y rfl rfl (Y_load rfl rfl) ?_
              refine TL_grun rfl rfl ?_
              refine TL_y rfl rfl (Y_field_addr rfl) ?_
              refine TL_grun rfl rfl ?_
              refine TL_y rfl rfl (Y_load rfl rfl) ?_
              refine TL_grun rfl rfl ?_
              refine TL_y rfl rfl (Y_str_eq rfl rfl) ?_
              refine TL_y rfl rfl (Y_pick_t rfl rfl) ?_
              refine TL_y rfl rfl (Y_move rfl) ?_
              refine TL_splitd 121 rfl (fun h121 => ?_) (fun h121 => ?_)
              · refine TL_grun rfl rfl ?_
                refine TL_y rfl rfl (Y_field_addr rfl) ?_
                refine TL_grun rfl rfl ?_
                refine TL_y rfl rfl (Y_load rfl rfl) ?_
                refine TL_grun rfl rfl ?_
                refine TL_y rfl rfl (Y_field_addr rfl) ?_
                refine TL_grun rfl rfl ?_
                refine TL_y rfl rfl (Y_load rfl rfl) ?_
                refine TL_grun rfl rfl ?_
                refine TL_y rfl rfl (Y_str_eq rfl rfl) ?_
                refine TL_y rfl rfl (Y_pick_t rfl rfl) ?_
                refine TL_y rfl rfl (Y_move rfl) ?_
                refine TL_splitd 128 rfl (fun h128 => ?_) (fun h128 => ?_)
                · refine TL_grun rfl rfl ?_
                  refine TL_y rfl rfl (Y_field_addr rfl) ?_
                  refine TL_grun rfl rfl ?_
                  refine TL_y rfl rfl (Y_load rfl rfl) ?_
                  refine TL_grun rfl rfl ?_
                  refine TL_y rfl rfl (Y_field_addr rfl) ?_
                  refine TL_grun rfl rfl ?_
                  refine TL_y rfl rfl (Y_load rfl rfl) ?_
                  refine TL_grun rfl rfl ?_
                  refine TL_y rfl rfl (Y_eq rfl rfl) ?_
                  refine TL_y rfl rfl (Y_pick_t rfl rfl) ?_
                  refine TL_y rfl rfl (Y_move rfl) ?_
                  refine TL_splitd 135 rfl (fun h135 => ?_) (fun h135 => ?_)
                  · refine TL_grun rfl rfl ?_
                    refine TL_y rfl rfl (Y_field_addr rfl) ?_
                    refine TL_grun rfl rfl ?_
                    refine TL_y rfl rfl (Y_load rfl rfl) ?_
                    refine TL_grun rfl rfl ?_
                    refine TL_y rfl rfl (Y_field_addr rfl) ?_
                    refine TL_grun rfl rfl ?_
                    refine TL_y rfl rfl (Y_load rfl rfl) ?_
                    refine TL_grun rfl rfl ?_
                    refine TL_call rfl rfl (equalInts_spec sln (SlN.of_gives GivesTo.g hk.cut.n)) ?_
                    rintro _ _ ⟨rfl, rfl⟩
                    refine TL_y rfl rfl (Y_pick_t rfl rfl) ?_
                    refine TL_chain_end rfl ?_ (by repeat (first | exact sub_refl | refine sub_ext rfl ?_)) GivesTo.g
                    exact congrArg Value.bool (decide_eq_decide.2 (by rw [en_eq]; simp_all))
                  · refine TL_gskip rfl rfl rfl rfl ?_
                    refine TL_gskip rfl rfl rfl rfl ?_
                    refine TL_gskip rfl rfl rfl rfl ?_
                    refine TL_gskip rfl rfl rfl rfl ?_
                    refine TL_gskip rfl rfl rfl rfl ?_
                    refine TL_y rfl rfl (Y_pick_f rfl rfl) ?_
                    refine TL_chain_end rfl ?_ (by repeat (first | exact sub_refl | refine sub_ext rfl ?_)) GivesTo.g
                    exact congrArg Value.bool (decide_eq_false (by rw [en_eq]; simp_all)).symm
                · refine TL_gskip rfl rfl rfl rfl ?_
                  refine TL_gskip rfl rfl rfl rfl ?_
                  refine TL_gskip rfl rfl rfl rfl ?_
                  refine TL_gskip rfl rfl rfl rfl ?_
                  refine TL_gskip rfl rfl rfl rfl ?_
                  refine TL_y rfl rfl (Y_pick_f rfl rfl) ?_
                  refine TL_y rfl rfl (Y_move rfl) ?_
                  refine TL_gskip rfl rfl rfl rfl ?_
                  refine TL_gskip rfl rfl rfl rfl ?_
                  refine TL_gskip rfl rfl rfl rfl ?_
                  refine TL_gskip rfl rfl rfl rfl ?_
                  refine TL_gskip rfl rfl rfl rfl ?_
                  refine TL_y rfl rfl (Y_pick_f rfl rfl) ?_
                  refine TL_chain_end rfl ?_ (by repeat (first | exact sub_refl | refine sub_ext rfl ?_)) GivesTo.g
                  exact congrArg Value.bool (decide_eq_false (by rw [en_eq]; simp_all)).symm
              · refine TL_gskip rfl rfl rfl rfl ?_
                refine TL_gskip rfl rfl rfl rfl ?_
                refine TL_gskip rfl rfl rfl rfl ?_
                refine TL_gskip rfl rfl rfl rfl ?_
                refine TL_gskip rfl rfl rfl rfl ?_
                refine TL_y rfl rfl (Y_pick_f rfl rfl) ?_
                refine TL_y rfl rfl (Y_move rfl) ?_
                refine TL_gskip rfl rfl rfl rfl ?_
                refine TL_gskip rfl rfl rfl rfl ?_
                refine TL_gskip rfl rfl rfl rfl ?_
                refine TL_gskip rfl rfl rfl rfl ?_
                refine TL_gskip rfl rfl rfl rfl ?_
                refine TL_y rfl rfl (Y_pick_f rfl rfl) ?_
                refine TL_y rfl rfl (Y_move rfl) ?_
                refine TL_gskip rfl rfl rfl rfl ?_
                refine TL_gskip rfl rfl rfl rfl ?_
                refine TL_gskip rfl rfl rfl rfl ?_
                refine TL_gskip rfl rfl rfl rfl ?_
                refine TL_gskip rfl rfl rfl rfl ?_
                refine TL_y rfl rfl (Y_pick_f rfl rfl) ?_
                refine TL_chain_end rfl ?_ (by repeat (first | exact sub_refl | refine sub_ext rfl ?_)) GivesTo.g
                exact congrArg Value.bool (decide_eq_false (by rw [en_eq]; simp_all)).symm
            · refine TL_gskip rfl rfl rfl rfl ?_
              refine TL_gskip rfl rfl rfl rfl ?_
              refine TL_gskip rfl rfl rfl rfl ?_
              refine TL_gskip rfl rfl rfl rfl ?_
              refine TL_gskip rfl rfl rfl rfl ?_
              refine TL_y rfl rfl (Y_pick_f rfl rfl) ?_
              refine TL_y rfl rfl (Y_move rfl) ?_
              refine TL_gskip rfl rfl rfl rfl ?_
              refine TL_gskip rfl rfl rfl rfl ?_
              refine TL_gskip rfl rfl rfl rfl ?_
              refine TL_gskip rfl rfl rfl rfl ?_
              refine TL_gskip rfl rfl rfl rfl ?_
              refine TL_y rfl rfl (Y_pick_f rfl rfl) ?_
              refine TL_y rfl rfl (Y_move rfl) ?_
              refine TL_gskip rfl rfl rfl rfl ?_
              refine TL_gskip rfl rfl rfl rfl ?_
              refine TL_gskip rfl rfl rfl rfl ?_
              refine TL_gskip rfl rfl rfl rfl ?_
              refine TL_gskip rfl rfl rfl rfl ?_
              refine TL_y rfl rfl (Y_pick_f rfl rfl) ?_
              refine TL_y rfl rfl (Y_move rfl) ?_
              refine TL_gskip rfl rfl rfl rfl ?_
              refine TL_gskip rfl rfl rfl rfl ?_
              refine TL_gskip rfl rfl rfl rfl ?_
              refine TL_gskip rfl rfl rfl rfl ?_
              refine TL_gskip rfl rfl rfl rfl ?_
              refine TL_y rfl rfl (Y_pick_f rfl rfl) ?_
              refine TL_chain_end rfl ?_ (by repeat (first | exact sub_refl | refine sub_ext rfl ?_)) GivesTo.g
              exact congrArg Value.bool (decide_eq_false (by rw [en_eq]; simp_all)).symm
          · refine TL_gskip rfl rfl rfl rfl ?_
            refine TL_gskip rfl rfl rfl rfl ?_
            refine TL_gskip rfl rfl rfl rfl ?_
            refine TL_gskip rfl rfl rfl rfl ?_
            refine TL_gskip rfl rfl rfl rfl ?_
            refine TL_gskip rfl rfl rfl rfl ?_
            refine TL_gskip rfl rfl rfl rfl ?_
            refine TL_y rfl rfl (Y_pick_f rfl rfl) ?_
            refine TL_y rfl rfl (Y_move rfl) ?_
            refine TL_gskip rfl rfl rfl rfl ?_
            refine TL_gskip rfl rfl rfl rfl ?_
            refine TL_gskip rfl rfl rfl rfl ?_
            refine TL_gskip rfl rfl rfl rfl ?_
            refine TL_gskip rfl rfl rfl rfl ?_
            refine TL_y rfl rfl (Y_pick_f rfl rfl) ?_
            refine TL_y rfl rfl (Y_move rfl) ?_
            refine TL_gskip rfl rfl rfl rfl ?_
            refine TL_gskip rfl rfl rfl rfl ?_
            refine TL_gskip rfl rfl rfl rfl ?_
            refine TL_gskip rfl rfl rfl rfl ?_
            refine TL_gskip rfl rfl rfl rfl ?_
            refine TL_y rfl rfl (Y_pick_f rfl rfl) ?_
            refine TL_y rfl rfl (Y_move rfl) ?_
            refine TL_gskip rfl rfl rfl rfl ?_
            refine TL_gskip rfl rfl rfl rfl ?_
            refine TL_gskip rfl rfl rfl rfl ?_
            refine TL_gskip rfl rfl rfl rfl ?_
            refine TL_gskip rfl rfl rfl rfl ?_
            refine TL_y rfl rfl (Y_pick_f rfl rfl) ?_
            refine TL_y rfl rfl (Y_move rfl) ?_
            refine TL_gskip rfl rfl rfl rfl ?_
            refine TL_gskip rfl rfl rfl rfl ?_
            refine TL_gskip rfl rfl rfl rfl ?_
            refine TL_gskip rfl rfl rfl rfl ?_
            refine TL_gskip rfl rfl rfl rfl ?_
            refine TL_y rfl rfl (Y_pick_f rfl rfl) ?_
            refine TL_chain_end rfl ?_ (by repeat (first | exact sub_refl | refine sub_ext rfl ?_)) GivesTo.g
            exact congrArg Value.bool (decide_eq_false (by rw [en_eq]; simp_all)).symm
        refine TL_y rfl rfl (Y_assign rfl) ?_
        refine TL_nil ?_
        refine T_region_last ?_
        refine TL_y rfl rfl (Y_move rfl) ?_
        refine TL_y rfl rfl (Y_move rfl) ?_
        refine TL_splitd 143 rfl (fun h143 => ?_) (fun h143 => ?_)
        · refine TL_gskip rfl rfl rfl rfl ?_
          refine TL_gskip rfl rfl rfl rfl ?_
          refine TL_y rfl rfl (Y_pick_t rfl rfl) ?_
          refine TL_y rfl rfl (Y_assign rfl) ?_
          refine TL_nil ?_
          refine thenS_normal ?_
          refine T_seq ?_
          refine T_region ?_
          refine TL_y rfl rfl (Y_move rfl) ?_
          refine TL_y rfl rfl (Y_not_t rfl) ?_
          refine TL_nil ?_
          refine T_cond_false rfl ?_
          refine T_skip ?_
          refine thenS_normal ?_
          refine T_region ?_
          refine TL_y rfl rfl (Y_move rfl) ?_
          refine TL_y rfl rfl (Y_bytes_strN rfl sln) ?_
          refine TL_y rfl rfl (Y_build rfl rfl) ?_
          refine TL_store rfl rfl rfl rfl rfl rfl ?_
          refine TL_nil ?_
          refine T_ret ?_
          have hch : chgA s m := by unfold chgA; rw [hg]; simp only [ne_eq, Option.some.injEq, hkey]; simp_all
          have hj : judgeV s m = .agg #[.string (strOfNums (outB (wMsg m ([], false)))), .bool true, .bool false] := by unfold judgeV recA; rw [if_pos ⟨hm, hn, hch⟩, decide_eq_true hm, decide_eq_false (fun h => hn h.2)]
          rw [hj]
          refine RetQ.gives (ac_close b s hi) ?_
          exact RetG_1 (.inl rfl) rfl (ResV.agg rfl rfl) GivesTo.g (⟨rfl, rfl⟩)
        · refine TL_grun rfl rfl ?_
          refine TL_y rfl rfl (Y_move rfl) ?_
          refine TL_grun rfl rfl ?_
          refine TL_y rfl rfl (Y_not_d rfl) ?_
          refine TL_y rfl rfl (Y_pick_f rfl rfl) ?_
          refine TL_y rfl rfl (Y_assign rfl) ?_
          refine TL_nil ?_
          refine thenS_normal ?_
          refine T_seq ?_
          refine T_region ?_
          refine TL_y rfl rfl (Y_move rfl) ?_
          refine TL_y rfl rfl (Y_not_d rfl) ?_
          refine TL_nil ?_
          refine T_if rfl (fun h148 => ?_) (fun h148 => ?_)
          · refine T_region_last ?_
            refine TL_y rfl rfl (Y_assign rfl) ?_
            refine TL_nil ?_
            refine thenS_normal ?_
            refine T_region ?_
            refine TL_y rfl rfl (Y_move rfl) ?_
            refine TL_name 149 (v' := .slice none ([] : List Int).length 0) rfl (rfl) ?_
            refine TL_y rfl rfl (Y_bytes_strN (A := none) (c := 0) (xs := []) rfl .nil) ?_
            refine TL_y rfl rfl (Y_build rfl rfl) ?_
            refine TL_store rfl rfl rfl rfl rfl rfl ?_
            refine TL_nil ?_
            refine T_ret ?_
            have hch : ¬ chgA s m := by unfold chgA; rw [hg]; simp only [ne_eq, Option.some.injEq, hkey]; simp_all
            have hj : judgeV s m = .agg #[.string (strOfNums []), .bool true, .bool false] := by unfold judgeV recA; rw [if_neg (fun h => hch h.2.2), decide_eq_true hm, decide_eq_false (fun h => hn h.2)]; rfl
            rw [hj]
            refine RetQ.gives (ac_close b s hi) ?_
            exact RetG_1 (.inl rfl) rfl (ResV.agg rfl rfl) GivesTo.g (⟨rfl, rfl⟩)
          · refine T_skip ?_
            refine thenS_normal ?_
            refine T_region ?_
            refine TL_y rfl rfl (Y_move rfl) ?_
            refine TL_y rfl rfl (Y_bytes_strN rfl sln) ?_
            refine TL_y rfl rfl (Y_build rfl rfl) ?_
            refine TL_store rfl rfl rfl rfl rfl rfl ?_
            refine TL_nil ?_
            refine T_ret ?_
            have hch : chgA s m := by unfold chgA; rw [hg]; simp only [ne_eq, Option.some.injEq, hkey]; simp_all
            have hj : judgeV s m = .agg #[.string (strOfNums (outB (wMsg m ([], false)))), .bool true, .bool false] := by unfold judgeV recA; rw [if_pos ⟨hm, hn, hch⟩, decide_eq_true hm, decide_eq_false (fun h => hn h.2)]
            rw [hj]
            refine RetQ.gives (ac_close b s hi) ?_
            exact RetG_1 (.inl rfl) rfl (ResV.agg rfl rfl) GivesTo.g (⟨rfl, rfl⟩)
      · refine RD_leaf _ [0, 1, 3, 0, 8, 24, 128, 0, 199, 511] [] [(0, true), (1, true), (2, true), (3, true), (4, true), (5, true), (7, false), (6, false), (8, false), (9, false)] (by decide +kernel) (Gives.refl _) ?_
        refine TF_y rfl rfl (Y_field_addr rfl) ?_
        refine TF_y rfl rfl (Y_field_addr rfl) ?_
        refine TF_y rfl rfl (Y_load_agg rfl rfl) ?_
        refine TF_y rfl rfl (Y_field_addr rfl) ?_
        refine TF_y rfl rfl (Y_field_addr rfl) ?_
        refine TF_y rfl rfl (Y_load_agg rfl rfl) ?_
        refine TF_anchor rfl ?_
        refine TL_alloc rfl rfl ?_
        intro b12
        refine TF_end GivesTo.g ?_
        refine TF_anchor rfl ?_
        refine TL_alloc rfl rfl ?_
        intro b11
        refine TF_end GivesTo.g ?_
        refine TF_anchor rfl ?_
        refine TL_store rfl rfl rfl rfl rfl rfl ?_
        refine TF_end GivesTo.g ?_
        refine TF_anchor rfl ?_
        refine TL_store rfl rfl rfl rfl rfl rfl ?_
        refine TF_end GivesTo.g ?_
        refine TF_nil ?_
        refine thenS_normal ?_
        refine T_region ?_
        refine TL_both 45 141 (u.bal = m.bal ∧ u.en = m.en) ?_ ?_
        · refine TL_y rfl rfl (Y_move rfl) ?_
          refine TL_y rfl rfl (Y_move rfl) ?_
          refine TL_grun rfl rfl ?_
          refine TL_y rfl rfl (Y_field_addr rfl) ?_
          refine TL_grun rfl rfl ?_
          refine TL_y rfl rfl (Y_load_agg rfl rfl) ?_
          refine TL_grun rfl rfl ?_
          refine TL_y rfl rfl (Y_field_addr rfl) ?_
          refine TL_grun rfl rfl ?_
          refine TL_y rfl rfl (Y_load_agg rfl rfl) ?_
          refine TL_grun rfl rfl ?_
          refine TL_y rfl rfl (Y_eq_bal rfl rfl) ?_
          refine TL_y rfl rfl (Y_pick_t rfl rfl) ?_
          refine TL_y rfl rfl (Y_move rfl) ?_
          refine TL_splitd 105 rfl (fun h105 => ?_) (fun h105 => ?_)
          · refine TL_grun rfl rfl ?_
            refine TL_y rfl rfl (Y_field_addr rfl) ?_
            refine TL_grun rfl rfl ?_
            refine TL_y rfl rfl (Y_field_addr rfl) ?_
            refine TL_grun rfl rfl ?_
            refine TL_y rfl rfl (Y_load rfl rfl) ?_
            refine TL_grun rfl rfl ?_
            refine TL_y rfl rfl (Y_field_addr rfl) ?_
            refine TL_grun rfl rfl ?_
            refine TL_y rfl rfl (Y_field_addr rfl) ?_
            refine TL_grun rfl rfl ?_
            refine TL_y rfl rfl (Y_load rfl rfl) ?_
            refine TL_grun rfl rfl ?_
            refine TL_y rfl rfl (Y_equal rfl rfl (EqIs.bool)) ?_
            refine TL_name 112 (v' := .bool (decide (u.en.noop = m.en.noop))) rfl (by cases u.en.noop <;> cases m.en.noop <;> rfl) ?_
            refine TL_y rfl rfl (Y_pick_t rfl rfl) ?_
            refine TL_y rfl rfl (Y_move rfl) ?_
            refine TL_splitd 114 rfl (fun h114 => ?_) (fun h114 => ?_)
            · refine TL_grun rfl rfl ?_
              refine TL_y rfl rfl (Y_field_addr rfl) ?_
              refine TL_grun rfl rfl ?_
              refine TL_y rfl rfl (Y_load rfl rfl) ?_
              refine TL_grun rfl rfl ?_
              refine TL_y rfl rfl (Y_field_addr rfl) ?_
              refine TL_grun rfl rfl ?_
              refine TL_y rfl rfl (Y_load rfl rfl) ?_
              refine TL_grun rfl rfl ?_
              refine TL_y rfl rfl (Y_str_eq rfl rfl) ?_
              refine TL_y rfl rfl (Y_pick_t rfl rfl) ?_
              refine TL_y rfl rfl (Y_move rfl) ?_
              refine TL_splitd 121 rfl (fun h121 => ?_) (fun h121 => ?_)
              · refine TL_grun rfl rfl ?_
                refine TL_y rfl rfl (Y_field_addr rfl) ?_
                refine TL_grun rfl rfl ?_
                refine TL_y rfl rfl (Y_load rfl rfl) ?_
                refine TL_grun rfl rfl ?_
                refine TL_y rfl rfl (Y_field_addr rfl) ?_
                refine TL_grun rfl rfl ?_
                refine TL_y rfl rfl (Y_load rfl rfl) ?_
                refine TL_grun rfl rfl ?_
                refine TL_y rfl rfl (Y_str_eq rfl rfl) ?_
                refine TL_y rfl rfl (Y_pick_t rfl rfl) ?_
                refine TL_y rfl rfl (Y_move rfl) ?_
                refine TL_splitd 128 rfl (fun h128 => ?_) (fun h128 => ?_)
                · refine TL_grun rfl rfl ?_
                  refine TL_y rfl rfl (Y_field_addr rfl) ?_
                  refine TL_grun rfl rfl ?_
                  refine TL_y rfl rfl (Y_load rfl rfl) ?_
                  refine TL_grun rfl rfl ?_
                  refine TL_y rfl rfl (Y_field_addr rfl) ?_
                  refine TL_grun rfl rfl ?_
                  refine TL_y rfl rfl (Y_load rfl rfl) ?_
                  refine TL_grun rfl rfl ?_
                  refine TL_y rfl rfl (Y_eq rfl rfl) ?_
                  refine TL_y rfl rfl (Y_pick_t rfl rfl) ?_
                  refine TL_y rfl rfl (Y_move rfl) ?_
                  refine TL_splitd 135 rfl (fun h135 => ?_) (fun h135 => ?_)
                  · refine TL_grun rfl rfl ?_
                    refine TL_y rfl rfl (Y_field_addr rfl) ?_
                    refine TL_grun rfl rfl ?_
                    refine TL_y rfl rfl (Y_load rfl rfl) ?_
                    refine TL_grun rfl rfl ?_
                    refine TL_y rfl rfl (Y_field_addr rfl) ?_
                    refine TL_grun rfl rfl ?_
                    refine TL_y rfl rfl (Y_load rfl rfl) ?_
                    refine TL_grun rfl rfl ?_
                    refine TL_call rfl rfl (equalInts_spec sln (SlN.of_gives GivesTo.g hk.cut.n)) ?_
                    rintro _ _ ⟨rfl, rfl⟩
                    refine TL_y rfl rfl (Y_pick_t rfl rfl) ?_
                    refine TL_chain_end rfl ?_ (by repeat (first | exact sub_refl | refine sub_ext rfl ?_)) GivesTo.g
                    exact congrArg Value.bool (decide_eq_decide.2 (by rw [en_eq]; simp_all))
                  · refine TL_gskip rfl rfl rfl rfl ?_
                    refine TL_gskip rfl rfl rfl rfl ?_
                    refine TL_gskip rfl rfl rfl rfl ?_
                    refine TL_gskip rfl rfl rfl rfl ?_
                    refine TL_gskip rfl rfl rfl rfl ?_
                    refine TL_y rfl rfl (Y_pick_f rfl rfl) ?_
                    refine TL_chain_end rfl ?_ (by repeat (first | exact sub_refl | refine sub_ext rfl ?_)) GivesTo.g
                    exact congrArg Value.bool (decide_eq_false (by rw [en_eq]; simp_all)).symm
                · refine TL_gskip rfl rfl rfl rfl ?_
                  refine TL_gskip rfl rfl rfl rfl ?_
                  refine TL_gskip rfl rfl rfl rfl ?_
                  refine TL_gskip rfl rfl rfl rfl ?_
                  refine TL_gskip rfl rfl rfl rfl ?_
                  refine TL_y rfl rfl (Y_pick_f rfl rfl) ?_
                  refine TL_y rfl rfl (Y_move rfl) ?_
                  refine TL_gskip rfl rfl rfl rfl ?_
                  refine TL_gskip rfl rfl rfl rfl ?_
                  refine TL_gskip rfl rfl rfl rfl ?_
                  refine TL_gskip rfl rfl rfl rfl ?_
                  refine TL_gskip rfl rfl rfl rfl ?_
                  refine TL_y rfl rfl (Y_pick_f rfl rfl) ?_
                  refine TL_chain_end rfl ?_ (by repeat (first | exact sub_refl | refine sub_ext rfl ?_)) GivesTo.g
                  exact congrArg Value.bool (decide_eq_false (by rw [en_eq]; simp_all)).symm
              · refine TL_gskip rfl rfl rfl rfl ?_
                refine TL_gskip rfl rfl rfl rfl ?_
                refine TL_gskip rfl rfl rfl rfl ?_
                refine TL_gskip rfl rfl rfl rfl ?_
                refine TL_gskip rfl rfl rfl rfl ?_
                refine TL_y rfl rfl (Y_pick_f rfl rfl) ?_
                refine TL_y rfl rfl (Y_move rfl) ?_
                refine TL_gskip rfl rfl rfl rfl ?_
                refine TL_gskip rfl rfl rfl rfl ?_
                refine TL_gskip rfl rfl rfl rfl ?_
                refine TL_gskip rfl rfl rfl rfl ?_
                refine TL_gskip rfl rfl rfl rfl ?_
                refine TL_y rfl rfl (Y_pick_f rfl rfl) ?_
                refine TL_y rfl rfl (Y_move rfl) ?_
                refine TL_gskip rfl rfl rfl rfl ?_
                refine TL_gskip rfl rfl rfl rfl ?_
                refine TL_gskip rfl rfl rfl rfl ?_
                refine TL_gskip rfl rfl rfl rfl ?_
                refine TL_gskip rfl rfl rfl rfl ?_
                refine TL_y rfl rfl (Y_pick_f rfl rfl) ?_
                refine TL_chain_end rfl ?_ (by repeat (first | exact sub_refl | refine sub_ext rfl ?_)) GivesTo.g
                exact congrArg Value.bool (decide_eq_false (by rw [en_eq]; simp_all)).symm
            · refine TL_gskip rfl rfl rfl rfl ?_
              refine TL_gskip rfl rfl rfl rfl ?_
              refine TL_gskip rfl rfl rfl rfl ?_
              refine TL_gskip rfl rfl rfl rfl ?_
              refine TL_gskip rfl rfl rfl rfl ?_
              refine TL_y rfl rfl (Y_pick_f rfl rfl) ?_
              refine TL_y rfl rfl (Y_move rfl) ?_
              refine TL_gskip rfl rfl rfl rfl ?_
              refine TL_gskip rfl rfl rfl rfl ?_
              refine TL_gskip rfl rfl rfl rfl ?_
              refine TL_gskip rfl rfl rfl rfl ?_
              refine TL_gskip rfl rfl rfl rfl ?_
              refine TL_y rfl rfl (Y_pick_f rfl rfl) ?_
              refine TL_y rfl rfl (Y_move rfl) ?_
              refine TL_gskip rfl rfl rfl rfl ?_
              refine TL_gskip rfl rfl rfl rfl ?_
              refine TL_gskip rfl rfl rfl rfl ?_
              refine TL_gskip rfl rfl rfl rfl ?_
              refine TL_gskip rfl rfl rfl rfl ?_
              refine TL_y rfl rfl (Y_pick_f rfl rfl) ?_
              refine TL_y rfl rfl (Y_move rfl) ?_
              refine TL_gskip rfl rfl rfl rfl ?_
              refine TL_gskip rfl rfl rfl rfl ?_
              refine TL_gskip rfl rfl rfl rfl ?_
              refine TL_gskip rfl rfl rfl rfl ?_
              refine TL_gskip rfl rfl rfl rfl ?_
              refine TL_y rfl rfl (Y_pick_f rfl rfl) ?_
              refine TL_chain_end rfl ?_ (by repeat (first | exact sub_refl | refine sub_ext rfl ?_)) GivesTo.g
              exact congrArg Value.bool (decide_eq_false (by rw [en_eq]; simp_all)).symm
          · refine TL_gskip rfl rfl rfl rfl ?_
            refine TL_gskip rfl rfl rfl rfl ?_
            refine TL_gskip rfl rfl rfl rfl ?_
            refine TL_gskip rfl rfl rfl rfl ?_
            refine TL_gskip rfl rfl rfl rfl ?_
            refine TL_gskip rfl rfl rfl rfl ?_
            refine TL_gskip rfl rfl rfl rfl ?_
            refine TL_y rfl rfl (Y_pick_f rfl rfl) ?_
            refine TL_y rfl rfl (Y_move rfl) ?_
            refine TL_gskip rfl rfl rfl rfl ?_
            refine TL_gskip rfl rfl rfl rfl ?_
            refine TL_gskip rfl rfl rfl rfl ?_
            refine TL_gskip rfl rfl rfl rfl ?_
            refine TL_gskip rfl rfl rfl rfl ?_
            refine TL_y rfl rfl (Y_pick_f rfl rfl) ?_
            refine TL_y rfl rfl (Y_move rfl) ?_
            refine TL_gskip rfl rfl rfl rfl ?_
            refine TL_gskip rfl rfl rfl rfl ?_
            refine TL_gskip rfl rfl rfl rfl ?_
            refine TL_gskip rfl rfl rfl rfl ?_
            refine TL_gskip rfl rfl rfl rfl ?_
            refine TL_y rfl rfl (Y_pick_f rfl rfl) ?_
            refine TL_y rfl rfl (Y_move rfl) ?_
            refine TL_gskip rfl rfl rfl rfl ?_
            refine TL_gskip rfl rfl rfl rfl ?_
            refine TL_gskip rfl rfl rfl rfl ?_
            refine TL_gskip rfl rfl rfl rfl ?_
            refine TL_gskip rfl rfl rfl rfl ?_
            refine TL_y rfl rfl (Y_pick_f rfl rfl) ?_
            refine TL_y rfl rfl (Y_move rfl) ?_
            refine TL_gskip rfl rfl rfl rfl ?_
            refine TL_gskip rfl rfl rfl rfl ?_
            refine TL_gskip rfl rfl rfl rfl ?_
            refine TL_gskip rfl rfl rfl rfl ?_
            refine TL_gskip rfl rfl rfl rfl ?_
            refine TL_y rfl rfl (Y_pick_f rfl rfl) ?_
            refine TL_chain_end rfl ?_ (by repeat (first | exact sub_refl | refine sub_ext rfl ?_)) GivesTo.g
            exact congrArg Value.bool (decide_eq_false (by rw [en_eq]; simp_all)).symm
        refine TL_y rfl rfl (Y_assign rfl) ?_
        refine TL_nil ?_
        refine T_region_last ?_
        refine TL_y rfl rfl (Y_move rfl) ?_
        refine TL_y rfl rfl (Y_move rfl) ?_
        refine TL_splitd 143 rfl (fun h143 => ?_) (fun h143 => ?_)
        · refine TL_gskip rfl rfl rfl rfl ?_
          refine TL_gskip rfl rfl rfl rfl ?_
          refine TL_y rfl rfl (Y_pick_t rfl rfl) ?_
          refine TL_y rfl rfl (Y_assign rfl) ?_
          refine TL_nil ?_
          refine thenS_normal ?_
          refine T_seq ?_
          refine T_region ?_
          refine TL_y rfl rfl (Y_move rfl) ?_
          refine TL_y rfl rfl (Y_not_t rfl) ?_
          refine TL_nil ?_
          refine T_cond_false rfl ?_
          refine T_skip ?_
          refine thenS_normal ?_
          refine T_region ?_
          refine TL_y rfl rfl (Y_move rfl) ?_
          refine TL_y rfl rfl (Y_bytes_strN rfl sln) ?_
          refine TL_y rfl rfl (Y_build rfl rfl) ?_
          refine TL_store rfl rfl rfl rfl rfl rfl ?_
          refine TL_nil ?_
          refine T_ret ?_
          have hch : chgA s m := by unfold chgA; rw [hg]; simp only [ne_eq, Option.some.injEq, hkey]; simp_all
          have hj : judgeV s m = .agg #[.string (strOfNums (outB (wMsg m ([], false)))), .bool true, .bool false] := by unfold judgeV recA; rw [if_pos ⟨hm, hn, hch⟩, decide_eq_true hm, decide_eq_false (fun h => hn h.2)]
          rw [hj]
          refine RetQ.gives (ac_close b s hi) ?_
          exact RetG_1 (.inl rfl) rfl (ResV.agg rfl rfl) GivesTo.g (⟨rfl, rfl⟩)
        · refine TL_grun rfl rfl ?_
          refine TL_y rfl rfl (Y_move rfl) ?_
          refine TL_grun rfl rfl ?_
          refine TL_y rfl rfl (Y_not_d rfl) ?_
          refine TL_y rfl rfl (Y_pick_f rfl rfl) ?_
          refine TL_y rfl rfl (Y_assign rfl) ?_
          refine TL_nil ?_
          refine thenS_normal ?_
          refine T_seq ?_
          refine T_region ?_
          refine TL_y rfl rfl (Y_move rfl) ?_
          refine TL_y rfl rfl (Y_not_d rfl) ?_
          refine TL_nil ?_
          refine T_if rfl (fun h148 => ?_) (fun h148 => ?_)
          · refine T_region_last ?_
            refine TL_y rfl rfl (Y_assign rfl) ?_
            refine TL_nil ?_
            refine thenS_normal ?_
            refine T_region ?_
            refine TL_y rfl rfl (Y_move rfl) ?_
            refine TL_name 149 (v' := .slice none ([] : List Int).length 0) rfl (rfl) ?_
            refine TL_y rfl rfl (Y_bytes_strN (A := none) (c := 0) (xs := []) rfl .nil) ?_
            refine TL_y rfl rfl (Y_build rfl rfl) ?_
            refine TL_store rfl rfl rfl rfl rfl rfl ?_
            refine TL_nil ?_
            refine T_ret ?_
            have hch : ¬ chgA s m := by unfold chgA; rw [hg]; simp only [ne_eq, Option.some.injEq, hkey]; simp_all
            have hj : judgeV s m = .agg #[.string (strOfNums []), .bool true, .bool false] := by unfold judgeV recA; rw [if_neg (fun h => hch h.2.2), decide_eq_true hm, decide_eq_false (fun h => hn h.2)]; rfl
            rw [hj]
            refine RetQ.gives (ac_close b s hi) ?_
            exact RetG_1 (.inl rfl) rfl (ResV.agg rfl rfl) GivesTo.g (⟨rfl, rfl⟩)
          · refine T_skip ?_
            refine thenS_normal ?_
            refine T_region ?_
            refine TL_y rfl rfl (Y_move rfl) ?_
            refine TL_y rfl rfl (Y_bytes_strN rfl sln) ?_
            refine TL_y rfl rfl (Y_build rfl rfl) ?_
            refine TL_store rfl rfl rfl rfl rfl rfl ?_
            refine TL_nil ?_
            refine T_ret ?_
            have hch : chgA s m := by unfold chgA; rw [hg]; simp only [ne_eq, Option.some.injEq, hkey]; simp_all
            have hj : judgeV s m = .agg #[.string (strOfNums (outB (wMsg m ([], false)))), .bool true, .bool false] := by unfold judgeV recA; rw [if_pos ⟨hm, hn, hch⟩, decide_eq_true hm, decide_eq_false (fun h => hn h.2)]
            rw [hj]
            refine RetQ.gives (ac_close b s hi) ?_
            exact RetG_1 (.inl rfl) rfl (ResV.agg rfl rfl) GivesTo.g (⟨rfl, rfl⟩)
theorem acJudge_spec {L : List HP} {b : Nat} {s : AccD} (m : MsgD) (p : MsgP) (hx : MsgOk m) (hk : MsgK L m p) (hc : cMsg m ≤ 140737488355328) : Fn Try.prog 62 #[.pointer (some ⟨b, 0, none⟩), .agg (List.toArray (msgC m p))] (ac b s :: L) (fun v L' => v = judgeV s m ∧ L' = ac b s :: L) := by
  by_cases hm : mineA s m
  · rcases hm.2.2 with h1 | h3
    · exact acJudge_prep m p hx hk hc hm h1
    · rcases hg : getM (vmap s.V) m.slot with _ | u
      · exact acJudge_accN m p hx hk hc hm h3 hg
      · exact acJudge_accS m p hx hk hc hm h3 hg
  · exact acJudge_bad m p hx hk hc hm
end Go.SL
set_option linter.unusedVariables false
set_option linter.unusedSimpArgs false
namespace Go.SL
open Go Go.Proofs
theorem acWould_spec {L : List HP} {b : Nat} {s : AccD} (m : MsgD) (p : MsgP) (hx : MsgOk m) (hk : MsgK L m p) (hc : cMsg m ≤ 140737488355328) : Fn Try.prog 28 #[.pointer (some ⟨b, 0, none⟩), .agg (List.toArray (msgC m p))] (ac b s :: L) (fun v L' => v = .tuple #[.string (recA s m), .bool (decide (mineA s m))] ∧ L' = ac b s :: L) := by
  refine Fn_enter Try.func28 rfl rfl rfl rfl ?_
  refine T_region ?_
  refine TL_box rfl rfl rfl ?_
  intro b3
  refine TL_y rfl rfl (Y_assign rfl) ?_
  refine TL_y rfl rfl (Y_assign rfl) ?_
  refine TL_nil ?_
  refine T_region ?_
  refine TL_y rfl rfl (Y_move rfl) ?_
  refine TL_y rfl rfl (Y_load_agg rfl rfl) ?_
  refine TL_pullk b ?_
  refine TL_call rfl rfl (acJudge_spec m p hx hk.tail hc) ?_
  rintro _ _ ⟨rfl, rfl⟩
  refine TL_alloc rfl rfl ?_
  intro b6
  refine TL_store rfl rfl rfl rfl rfl rfl ?_
  refine TL_nil ?_
  refine T_region_draw _ [0, 1, 0, 4, 3, 31] [] [(0, true), (1, true), (2, true), (3, true), (4, true), (5, true)] (by kernel_rfl) (by decide +kernel) (Gives.refl _) ?_
  refine TF_y rfl rfl (Y_field_addr rfl) ?_
  refine TF_y rfl rfl (Y_load rfl rfl) ?_
  refine TF_y rfl rfl (Y_field_addr rfl) ?_
  refine TF_y rfl rfl (Y_load rfl rfl) ?_
  refine TF_y rfl rfl (Y_assign rfl) ?_
  refine TF_y rfl rfl (Y_assign rfl) ?_
  refine TF_nil ?_
  refine T_ret ?_
  exact RetG_2 (.inl rfl) rfl (ResV.tmp rfl) (ResV.tmp rfl) GivesTo.g (⟨rfl, rfl⟩)
end Go.SL
set_option linter.unusedVariables false
set_option linter.unusedSimpArgs false
namespace Go.SL
open Go Go.Proofs
structure RS where
  b : List Int
  n : Nat
  bad : Bool
/-- A part is read: what it tells of the bytes. -/
structure RdR {α : Type} (ok iv : α → Prop) (b : α → List Int) (s : RS) (x : α) (s' : RS) : Prop where
  snd : s'.bad = false → s.bad = false ∧ ok x ∧ s.b = b x ++ s'.b
  cmp : ∀ y r, s.bad = false → ok y → s.b = b y ++ r → s'.bad = false
  tot : s'.n + s'.b.length = s.n + s.b.length
  iv : iv x
section
variable {α β : Type} {ok iv : α → Prop} {b : α → List Int} {s s1 s2 : RS} {x : α}
theorem RdR.seq {ok2 iv2 : β → Prop} {b2 : β → List Int} {y : β} (h1 : RdR ok iv b s x s1) (hp : PF ok b) (h2 : RdR ok2 iv2 b2 s1 y s2) : RdR (fun p : α × β => ok p.1 ∧ ok2 p.2) (fun p => iv p.1 ∧ iv2 p.2) (fun p => b p.1 ++ b2 p.2) s (x, y) s2 := by
  refine ⟨fun h => ?_, fun y r hs hy hb => ?_, by rw [h2.tot, h1.tot], h1.iv, h2.iv⟩
  · obtain ⟨a1, a2, a3⟩ := h2.snd h
    obtain ⟨c1, c2, c3⟩ := h1.snd a1
    exact ⟨c1, ⟨c2, a2⟩, by rw [c3, a3, List.append_assoc]⟩
  · rw [List.append_assoc] at hb
    have g1 := h1.cmp _ _ hs hy.1 hb
    obtain ⟨c1, c2, c3⟩ := h1.snd g1
    obtain ⟨_, e⟩ := hp _ _ _ _ c2 hy.1 (c3.symm.trans hb)
    exact h2.cmp _ _ g1 hy.2 e
theorem RdR.map {ok2 iv2 : β → Prop} {b2 : β → List Int} (f : α → β) (g : β → α) (h : RdR ok iv b s x s1) (hg : g (f x) = x) (hok : ∀ y, ok2 y ↔ ok (g y)) (hb : ∀ y, b2 y = b (g y)) (hiv : iv x → iv2 (f x)) : RdR ok2 iv2 b2 s (f x) s1 := by
  refine ⟨fun k => ?_, fun y r hs hy he => h.cmp (g y) r hs ((hok y).1 hy) (by rw [he, hb]), h.tot, hiv h.iv⟩
  obtain ⟨a1, a2, a3⟩ := h.snd k
  exact ⟨a1, (hok _).2 (by rw [hg]; exact a2), by rw [hb, hg]; exact a3⟩
theorem RdR.bytes (h : RdR ok iv b s x s1) (hb : ∀ y, b y = b y) : RdR ok iv b s x s1 := h
end

/-! ### A number, a text are taken -/
def TakeU (s : RS) (x : Nat) (s' : RS) : Prop := (s.bad = false ∧ ∃ k, RdU s.b x k 0 ∧ s' = ⟨s.b.drop k, s.n + k, false⟩) ∨ (s' = ⟨s.b, s.n, true⟩ ∧ x = 0 ∧ (s.bad = true ∨ RdU s.b 0 0 10))
def TakeT (most : Int) (s : RS) (x : ByteArray) (s' : RS) : Prop := (s.bad = false ∧ ∃ k, RdT s.b most x k 0 ∧ s' = ⟨s.b.drop k, s.n + k, false⟩) ∨ (s' = ⟨s.b, s.n, true⟩ ∧ x = ⟨#[]⟩ ∧ (s.bad = true ∨ RdT s.b most ⟨#[]⟩ 0 10))
def txtOf (most : Int) (s : ByteArray) : Prop := (s.size : Int) ≤ most
/-! ### The reader in memory -/
abbrev rdF (b : Nat) (s : RS) (p : Option Addr × Nat) : List HP := [cells b [.slice p.1 s.b.length p.2, .int .i64 (s.n : Int), .bool s.bad] 170, sl (intR .u8) p.1 p.2 s.b]
def rdr (b : Nat) (s : RS) : HP := exH (rdF b s)
def rdN (b : Nat) (n : Int) (bad : Bool) : HP := exH fun v0 : Value => [cells b [v0, .int .i64 n, .bool bad] 170]
section
variable {r : Option Nat} {n : Nat} {P : Program} {ops : Array Oper} {rest : List Oper} {K : St → Prop} {Q : Exit → St → Prop} {D : List Deferred} {E : Env} {L L' : List HP} {b : Nat} {s : RS} {ty : TypeId}
instance findHP_rdN {v0 : Value} {m : Int} {bad : Bool} {L1 : List HP} [h : FindC L b [v0, .int .i64 m, .bool bad] 170 L1] : FindHP L (rdN b m bad) L1 := ⟨h.g.trans (exH_close (f := fun v0 : Value => [cells b [v0, .int .i64 m, .bool bad] 170]) v0)⟩
end
instance findK_rdr {L : List HP} {b : Nat} {s : RS} : FindK (rdr b s :: L) b (rdr b s) L := ⟨Gives.refl _⟩
end Go.SL
set_option linter.unusedVariables false
set_option linter.unusedSimpArgs false
namespace Go.SL
open Go Go.Proofs
end Go.SL
set_option linter.unusedVariables false
set_option linter.unusedSimpArgs false
namespace Go.SL
open Go Go.Proofs
/-! ### Lists -/
structure LI {α : Type} (ok iv : α → Prop) (b : α → List Int) (n : Nat) (s : RS) (xs : List α) (s' : RS) : Prop where
  snd : s'.bad = false → s.bad = false ∧ (∀ x ∈ xs, ok x) ∧ s.b = bAll b xs ++ s'.b
  cmp : ∀ ys r, s.bad = false → (∀ y ∈ ys, ok y) → ys.length = n → s.b = bAll b ys ++ r → s'.bad = false ∧ s'.b = bAll b (ys.drop xs.length) ++ r
  tot : s'.n + s'.b.length = s.n + s.b.length
  iv : ∀ x ∈ xs, iv x
theorem bAll_cons {α : Type} (b : α → List Int) (x : α) (l : List α) : bAll b (x :: l) = b x ++ bAll b l := by simp [bAll]
theorem bAll_snoc {α : Type} (b : α → List Int) (l : List α) (x : α) : bAll b (l ++ [x]) = bAll b l ++ b x := by simp [bAll]
section
variable {α : Type} {ok iv : α → Prop} {b : α → List Int} {n : Nat} {s s0 st st' : RS} {xs : List α} {x : α}
theorem LI.zero : LI ok iv b n s [] s := ⟨fun h => ⟨h, by simp, by simp [bAll]⟩, fun ys r h _ _ e => ⟨h, by simpa using e⟩, rfl, by simp⟩
theorem LI.next (hp : PF ok b) (h : LI ok iv b n s xs st) (hl : xs.length < n) (hx : RdR ok iv b st x st') : LI ok iv b n s (xs ++ [x]) st' := by
  refine ⟨fun k => ?_, fun ys r hs hy hn he => ?_, by rw [hx.tot, h.tot], fun y hy => ?_⟩
  · obtain ⟨a1, a2, a3⟩ := hx.snd k
    obtain ⟨c1, c2, c3⟩ := h.snd a1
    refine ⟨c1, fun y hy => ?_, by rw [c3, a3, bAll_snoc, List.append_assoc]⟩
    rcases List.mem_append.1 hy with hy | hy
    · exact c2 y hy
    · simp at hy; subst hy; exact a2
  · obtain ⟨g1, g2⟩ := h.cmp ys r hs hy hn he
    have hlt : xs.length < ys.length := by omega
    rw [List.drop_eq_getElem_cons hlt, bAll_cons, List.append_assoc] at g2
    have hyo := hy _ (List.getElem_mem hlt)
    have k := hx.cmp _ _ g1 hyo g2
    obtain ⟨a1, a2, a3⟩ := hx.snd k
    obtain ⟨_, e⟩ := hp _ _ _ _ a2 hyo (a3.symm.trans g2)
    exact ⟨k, by rw [e]; simp⟩
  · rcases List.mem_append.1 hy with hy | hy
    · exact h.iv y hy
    · simp at hy; subst hy; exact hx.iv
def okL (ok : α → Prop) (most : Nat) (v : List α) : Prop := v.length ≤ most ∧ ∀ x ∈ v, ok x
def bList (b : α → List Int) (v : List α) : List Int := bNum (v.length : Int) ++ bAll b v
theorem LI.done {most : Nat} (hm : most ≤ 4096) (h0 : RdR (rNum (most : Int)) (rNum (most : Int)) bNum s0 (n : Int) s) (h : LI ok iv b n s xs st) (hl : xs.length ≤ n) (hd : xs.length = n ∨ st.bad = true) : RdR (okL ok most) (okL iv most) (bList b) s0 xs st := by
  have hn := h0.iv
  unfold rNum at hn
  refine ⟨fun k => ?_, fun ys r hs hy he => ?_, by rw [h.tot, h0.tot], by omega, h.iv⟩
  · obtain ⟨a1, a2, a3⟩ := h.snd k
    obtain ⟨c1, c2, c3⟩ := h0.snd a1
    have hx : xs.length = n := hd.resolve_right (by rw [k]; simp)
    exact ⟨c1, ⟨by omega, a2⟩, by rw [c3, a3, bList, List.append_assoc, hx]⟩
  · have hy1 := hy.1
    unfold bList at he
    rw [List.append_assoc] at he
    have hr : rNum (most : Int) (ys.length : Int) := by unfold rNum; omega
    have g1 := h0.cmp _ _ hs hr he
    obtain ⟨c1, c2, c3⟩ := h0.snd g1
    obtain ⟨e1, e2⟩ := pf_num (most := (most : Int)) (by omega) _ _ _ _ c2 hr (c3.symm.trans he)
    exact (h.cmp ys r g1 hy.2 (by omega) e2).1
end
end Go.SL
set_option linter.unusedVariables false
set_option linter.unusedSimpArgs false
namespace Go.SL
open Go Go.Proofs
theorem one_cell {α : Type} {R : Rep α} {x : α} {l : List Value} {L : List HP} (h : Knows L (fun M => R.rep M x l)) : Knows L (fun M => CellsOf M R [x] l) := h.mono fun M h => ⟨l, [], h, rfl, by simp⟩
structure LsS (α : Type) where
  xs : List α
  s : RS
  A : Option Addr
  c : Nat
abbrev capC (bx b : Nat) : HP := cells bx [.pointer (some ⟨b, 0, none⟩)] 168
end Go.SL
set_option linter.unusedVariables false
set_option linter.unusedSimpArgs false
namespace Go.SL
open Go Go.Proofs
def entryIv (e : EntryD) : Prop := orderOk' e.order
end Go.SL
set_option linter.unusedVariables false
set_option linter.unusedSimpArgs false
namespace Go.SL
open Go Go.Proofs
abbrev mL (m : MsgD) (p : MsgP) (L : List HP) : List HP := sl (intR .i64) p.cut.1 p.cut.2 m.en.order.cut :: sl votedR p.voted.1 p.voted.2 m.voted :: sl (intR .i64) p.seen.1 p.seen.2 m.seen :: sl eventR p.events.1 p.events.2 m.events :: L
abbrev msg0 : MsgD := ⟨0, 0, 0, (0, 0), 0, ⟨false, ⟨⟨#[]⟩, ⟨#[]⟩, 0, []⟩⟩, [], [], [], 0⟩
def rs0 (bs : List Int) : RS := ⟨bs, 0, false⟩
/-- What reading a whole message comes to. -/
def MsgRes (bs : List Int) (m : MsgD) (e : Int) : Prop := ∃ x s', RdR rMsg MsgOk bMsg (rs0 bs) x s' ∧ ((e = 0 ∧ m = x ∧ s'.bad = false ∧ s'.b = [] ∧ bs.length ≤ 65536) ∨ (e = 10 ∧ (s'.bad = true ∨ s'.b ≠ [] ∨ 65536 < bs.length)))
end Go.SL
set_option linter.unusedVariables false
set_option linter.unusedSimpArgs false
namespace Go.SL
open Go Go.Proofs
abbrev mP0 : MsgP := ⟨(none, 0), (none, 0), (none, 0), (none, 0)⟩
theorem mL_nil {m : MsgD} {L : List HP} (h1 : m.en.order.cut = []) (h2 : m.voted = []) (h3 : m.seen = []) (h4 : m.events = []) : Gives L (mL m mP0 L) := by
  unfold mL
  rw [h1, h2, h3, h4]
  exact (slnil.lay).trans (Gives.trans (slnil.lay) (Gives.trans (slnil.lay) (slnil.lay)))
theorem acOn_bad {L : List HP} {b : Nat} {s : AccD} (m : MsgD) (p : MsgP) (hx : MsgOk m) (hk : MsgK L m p) (hc : cMsg m ≤ 140737488355328) (hm : ¬ mineA s m) : Fn Try.prog 23 #[.pointer (some ⟨b, 0, none⟩), .agg (List.toArray (msgC m p))] (ac b s :: L) (fun v L' => ∃ q, v = .tuple #[.agg (List.toArray (msgC (repA s m) q)), .string (recA s m), .bool (decide (mineA s m))] ∧ L' = mL (repA s m) q (ac b (stA s m) :: L)) := by
  have e1 : repA s m = ⟨0, 0, 0, (0, 0), 0, ⟨false, ⟨⟨#[]⟩, ⟨#[]⟩, 0, []⟩⟩, [], [], [], 0⟩ := by unfold repA; rw [if_neg hm]
  have e2 : recA s m = ⟨#[]⟩ := by unfold recA; rw [if_neg (fun h => hm h.1)]
  have e3 : stA s m = s := by unfold stA; rw [if_neg (fun h => hm h.1)]
  rw [e1, e2, e3, decide_eq_false hm]
  refine Fn_enter Try.func23 rfl rfl rfl rfl ?_
  refine T_region ?_
  refine TL_box rfl rfl rfl ?_
  intro b3
  refine TL_alloc rfl rfl ?_
  intro b4
  refine TL_y rfl rfl (Y_assign rfl) ?_
  refine TL_y rfl rfl (Y_assign rfl) ?_
  refine TL_nil ?_
  refine T_region ?_
  refine TL_y rfl rfl (Y_move rfl) ?_
  refine TL_y rfl rfl (Y_load_agg rfl rfl) ?_
  refine TL_pullk b ?_
  refine TL_call rfl rfl (acJudge_spec m p hx hk.tail.tail hc) ?_
  rintro _ _ ⟨rfl, rfl⟩
  refine TL_name 11 (v' := .agg #[.string (recA s m), .bool (decide (mineA s m)), .bool (decide (mineA s m ∧ nackA s m))]) rfl (rfl) ?_
  refine TL_alloc rfl rfl ?_
  intro b7
  refine TL_store rfl rfl rfl rfl rfl rfl ?_
  refine TL_nil ?_
  refine T_seq ?_
  refine T_region ?_
  refine TL_y rfl rfl (Y_field_addr rfl) ?_
  refine TL_y rfl rfl (Y_load rfl rfl) ?_
  refine TL_name 13 (v' := .bool false) rfl (congrArg Value.bool (decide_eq_false hm)) ?_
  refine TL_y rfl rfl (Y_not_f rfl) ?_
  refine TL_nil ?_
  refine T_cond_true rfl ?_
  refine T_region ?_
  refine TL_y rfl rfl (Y_build rfl rfl) ?_
  refine TL_store rfl rfl rfl rfl rfl rfl ?_
  refine TL_y rfl rfl (Y_assign rfl) ?_
  refine TL_y rfl rfl (Y_assign rfl) ?_
  refine TL_nil ?_
  refine T_ret ?_
  refine thenS_ret ?_
  refine RetQ.gives (mL_nil (m := ⟨0, 0, 0, (0, 0), 0, ⟨false, ⟨⟨#[]⟩, ⟨#[]⟩, 0, []⟩⟩, [], [], [], 0⟩) rfl rfl rfl rfl) ?_
  exact RetG_3 (.inl rfl) rfl (ResV.agg rfl rfl) (ResV.tmp rfl) (ResV.tmp rfl) GivesTo.g (⟨mP0, rfl, rfl⟩)
end Go.SL
set_option linter.unusedVariables false
set_option linter.unusedSimpArgs false
namespace Go.SL
open Go Go.Proofs
theorem mL_voted {m : MsgD} {L : List HP} {A : Option Addr} {c : Nat} (h1 : m.en.order.cut = []) (h3 : m.seen = []) (h4 : m.events = []) (hk : SlK L votedR A c m.voted) : Gives L (mL m ⟨(none, 0), (A, c), (none, 0), (none, 0)⟩ L) := by
  unfold mL
  rw [h1, h3, h4]
  exact (slnil.lay).trans (Gives.trans (slnil.lay) (Gives.trans (SlK.lay hk.tail.tail) (slnil.lay)))
theorem acOn_nack {L : List HP} {b : Nat} {s : AccD} (m : MsgD) (p : MsgP) (hx : MsgOk m) (hk : MsgK L m p) (hc : cMsg m ≤ 140737488355328) (hm : mineA s m) (hn : nackA s m) : Fn Try.prog 23 #[.pointer (some ⟨b, 0, none⟩), .agg (List.toArray (msgC m p))] (ac b s :: L) (fun v L' => ∃ q, v = .tuple #[.agg (List.toArray (msgC (repA s m) q)), .string (recA s m), .bool (decide (mineA s m))] ∧ L' = mL (repA s m) q (ac b (stA s m) :: L)) := by
  have e1 : repA s m = repM s m 5 s.prom [] := by unfold repA; rw [if_pos hm, if_pos hn]
  have e2 : recA s m = ⟨#[]⟩ := by unfold recA; rw [if_neg (fun h => h.2.1 hn)]
  have e3 : stA s m = s := by unfold stA; rw [if_neg (fun h => h.2 hn)]
  rw [e1, e2, e3, decide_eq_true hm]
  refine Fn_enter Try.func23 rfl rfl rfl rfl ?_
  refine T_region ?_
  refine TL_box rfl rfl rfl ?_
  intro b3
  refine TL_alloc rfl rfl ?_
  intro b4
  refine TL_y rfl rfl (Y_assign rfl) ?_
  refine TL_y rfl rfl (Y_assign rfl) ?_
  refine TL_nil ?_
  refine T_region ?_
  refine TL_y rfl rfl (Y_move rfl) ?_
  refine TL_y rfl rfl (Y_load_agg rfl rfl) ?_
  refine TL_pullk b ?_
  refine TL_call rfl rfl (acJudge_spec m p hx hk.tail.tail hc) ?_
  rintro _ _ ⟨rfl, rfl⟩
  refine TL_name 11 (v' := .agg #[.string (recA s m), .bool (decide (mineA s m)), .bool (decide (mineA s m ∧ nackA s m))]) rfl (rfl) ?_
  refine TL_alloc rfl rfl ?_
  intro b7
  refine TL_store rfl rfl rfl rfl rfl rfl ?_
  refine TL_nil ?_
  refine T_seq ?_
  refine T_region ?_
  refine TL_y rfl rfl (Y_field_addr rfl) ?_
  refine TL_y rfl rfl (Y_load rfl rfl) ?_
  refine TL_name 13 (v' := .bool true) rfl (congrArg Value.bool (decide_eq_true hm)) ?_
  refine TL_y rfl rfl (Y_not_t rfl) ?_
  refine TL_nil ?_
  refine T_cond_false rfl ?_
  refine T_skip ?_
  refine thenS_normal ?_
  refine T_pullk b ?_
  refine T_ac fun bt hi => ?_
  refine T_region_draw _ [0, 1, 3, 7, 0, 16, 0, 64, 192, 448, 0, 1024, 0, 8191, 0, 32767] [] [(0, true), (1, true), (2, true), (3, true), (4, true), (5, true), (6, true), (7, true), (8, true), (9, true), (10, true), (11, true), (12, true), (13, true), (14, false), (15, false)] (by kernel_rfl) (by decide +kernel) (Gives.refl _) ?_
  refine TF_y rfl rfl (Y_move rfl) ?_
  refine TF_y rfl rfl (Y_nil_check rfl) ?_
  refine TF_y rfl rfl (Y_field_addr rfl) ?_
  refine TF_y rfl rfl (Y_load rfl rfl) ?_
  refine TF_y rfl rfl (Y_field_addr rfl) ?_
  refine TF_y rfl rfl (Y_load rfl rfl) ?_
  refine TF_y rfl rfl (Y_move rfl) ?_
  refine TF_y rfl rfl (Y_nil_check rfl) ?_
  refine TF_y rfl rfl (Y_field_addr rfl) ?_
  refine TF_y rfl rfl (Y_load_agg rfl rfl) ?_
  refine TF_y rfl rfl (Y_field_addr rfl) ?_
  refine TF_y rfl rfl (Y_load rfl rfl) ?_
  refine TF_y rfl rfl (Y_build rfl rfl) ?_
  refine TF_y rfl rfl (Y_build rfl rfl) ?_
  refine TF_anchor rfl ?_
  refine TL_alloc rfl rfl ?_
  intro b8
  refine TF_end GivesTo.g ?_
  refine TF_anchor rfl ?_
  refine TL_store rfl rfl rfl rfl rfl rfl ?_
  refine TF_end GivesTo.g ?_
  refine TF_nil ?_
  refine T_seq ?_
  refine T_region ?_
  refine TL_y rfl rfl (Y_field_addr rfl) ?_
  refine TL_y rfl rfl (Y_load rfl rfl) ?_
  refine TL_name 31 (v' := .bool true) rfl (congrArg Value.bool (decide_eq_true ⟨hm, hn⟩)) ?_
  refine TL_nil ?_
  refine T_cond_true rfl ?_
  refine T_region ?_
  refine TL_y rfl rfl (Y_load_agg rfl rfl) ?_
  refine TL_store rfl rfl rfl rfl rfl rfl ?_
  refine TL_y rfl rfl (Y_assign rfl) ?_
  refine TL_y rfl rfl (Y_assign rfl) ?_
  refine TL_nil ?_
  refine T_ret ?_
  refine thenS_ret ?_
  refine RetQ.gives (ac_close b s hi) ?_
  refine RetQ.gives (mL_nil (m := repM s m 5 s.prom []) rfl rfl rfl rfl) ?_
  exact RetG_3 (.inl rfl) rfl (ResV.agg rfl rfl) (ResV.tmp rfl) (ResV.tmp rfl) GivesTo.g (⟨mP0, rfl, rfl⟩)
theorem acOn_prep {L : List HP} {b : Nat} {s : AccD} (m : MsgD) (p : MsgP) (hx : MsgOk m) (hk : MsgK L m p) (hc : cMsg m ≤ 140737488355328) (hm : mineA s m) (hn : ¬ nackA s m) (h1 : m.kind = 1) : Fn Try.prog 23 #[.pointer (some ⟨b, 0, none⟩), .agg (List.toArray (msgC m p))] (ac b s :: L) (fun v L' => ∃ q, v = .tuple #[.agg (List.toArray (msgC (repA s m) q)), .string (recA s m), .bool (decide (mineA s m))] ∧ L' = mL (repA s m) q (ac b (stA s m) :: L)) := by
  have e1 : repA s m = repM s m 2 m.bal (aboveV s.V m.slot) := by unfold repA; rw [if_pos hm, if_neg hn, if_pos h1]
  have e3 : stA s m = ⟨s.node, m.bal, s.V⟩ := by unfold stA; rw [if_pos ⟨hm, hn⟩, if_pos h1]
  have hst := fun hi : AI s => hi.step hx
  rw [e3] at hst
  rw [e1, e3, decide_eq_true hm]
  refine Fn_enter Try.func23 rfl rfl rfl rfl ?_
  refine T_region ?_
  refine TL_box rfl rfl rfl ?_
  intro b3
  refine TL_alloc rfl rfl ?_
  intro b4
  refine TL_y rfl rfl (Y_assign rfl) ?_
  refine TL_y rfl rfl (Y_assign rfl) ?_
  refine TL_nil ?_
  refine T_region ?_
  refine TL_y rfl rfl (Y_move rfl) ?_
  refine TL_y rfl rfl (Y_load_agg rfl rfl) ?_
  refine TL_pullk b ?_
  refine TL_call rfl rfl (acJudge_spec m p hx hk.tail.tail hc) ?_
  rintro _ _ ⟨rfl, rfl⟩
  refine TL_name 11 (v' := .agg #[.string (recA s m), .bool (decide (mineA s m)), .bool (decide (mineA s m ∧ nackA s m))]) rfl (rfl) ?_
  refine TL_alloc rfl rfl ?_
  intro b7
  refine TL_store rfl rfl rfl rfl rfl rfl ?_
  refine TL_nil ?_
  refine T_seq ?_
  refine T_region ?_
  refine TL_y rfl rfl (Y_field_addr rfl) ?_
  refine TL_y rfl rfl (Y_load rfl rfl) ?_
  refine TL_name 13 (v' := .bool true) rfl (congrArg Value.bool (decide_eq_true hm)) ?_
  refine TL_y rfl rfl (Y_not_t rfl) ?_
  refine TL_nil ?_
  refine T_cond_false rfl ?_
  refine T_skip ?_
  refine thenS_normal ?_
  refine T_pullk b ?_
  refine T_ac fun bt hi => ?_
  refine T_region_draw _ [0, 1, 3, 7, 0, 16, 0, 64, 192, 448, 0, 1024, 0, 8191, 0, 32767] [] [(0, true), (1, true), (2, true), (3, true), (4, true), (5, true), (6, true), (7, true), (8, true), (9, true), (10, true), (11, true), (12, true), (13, true), (14, false), (15, false)] (by kernel_rfl) (by decide +kernel) (Gives.refl _) ?_
  refine TF_y rfl rfl (Y_move rfl) ?_
  refine TF_y rfl rfl (Y_nil_check rfl) ?_
  refine TF_y rfl rfl (Y_field_addr rfl) ?_
  refine TF_y rfl rfl (Y_load rfl rfl) ?_
  refine TF_y rfl rfl (Y_field_addr rfl) ?_
  refine TF_y rfl rfl (Y_load rfl rfl) ?_
  refine TF_y rfl rfl (Y_move rfl) ?_
  refine TF_y rfl rfl (Y_nil_check rfl) ?_
  refine TF_y rfl rfl (Y_field_addr rfl) ?_
  refine TF_y rfl rfl (Y_load_agg rfl rfl) ?_
  refine TF_y rfl rfl (Y_field_addr rfl) ?_
  refine TF_y rfl rfl (Y_load rfl rfl) ?_
  refine TF_y rfl rfl (Y_build rfl rfl) ?_
  refine TF_y rfl rfl (Y_build rfl rfl) ?_
  refine TF_anchor rfl ?_
  refine TL_alloc rfl rfl ?_
  intro b8
  refine TF_end GivesTo.g ?_
  refine TF_anchor rfl ?_
  refine TL_store rfl rfl rfl rfl rfl rfl ?_
  refine TF_end GivesTo.g ?_
  refine TF_nil ?_
  refine T_seq ?_
  refine T_region ?_
  refine TL_y rfl rfl (Y_field_addr rfl) ?_
  refine TL_y rfl rfl (Y_load rfl rfl) ?_
  refine TL_name 31 (v' := .bool false) rfl (congrArg Value.bool (decide_eq_false fun h => hn h.2)) ?_
  refine TL_nil ?_
  refine T_cond_false rfl ?_
  refine T_skip ?_
  refine thenS_normal ?_
  refine T_region_draw (cells b3 (msgC m p) 44 :: []) [0, 0, 2, 0, 8, 7, 39, 103, 255, 511] [] [(0, true), (1, true), (2, true), (3, true), (4, true), (5, true), (6, true), (7, false), (8, true), (9, false)] (by kernel_rfl) (by decide +kernel) GivesTo.g ?_
  refine TF_y rfl rfl (Y_move rfl) ?_
  refine TF_y rfl rfl (Y_field_addr rfl) ?_
  refine TF_y rfl rfl (Y_load_agg rfl rfl) ?_
  refine TF_y rfl rfl (Y_field_addr rfl) ?_
  refine TF_y rfl rfl (Y_load_agg rfl rfl) ?_
  refine TF_y rfl rfl (Y_nil_check rfl) ?_
  refine TF_y rfl rfl (Y_field_addr rfl) ?_
  refine TF_anchor rfl ?_
  refine TL_store rfl rfl rfl rfl rfl rfl ?_
  refine TF_end GivesTo.g ?_
  refine TF_y rfl rfl (Y_field_addr rfl) ?_
  refine TF_anchor rfl ?_
  refine TL_store rfl rfl rfl rfl rfl rfl ?_
  refine TF_end GivesTo.g ?_
  refine TF_nil ?_
  refine T_seq ?_
  refine T_gives (ac_close (bt := bt) b ⟨s.node, m.bal, s.V⟩ (hst hi)) ?_
  refine T_region ?_
  refine TL_y rfl rfl (Y_field_addr rfl) ?_
  refine TL_y rfl rfl (Y_load rfl rfl) ?_
  refine TL_y rfl rfl (Y_eq rfl rfl) ?_
  refine TL_name 43 (v' := .bool true) rfl (congrArg Value.bool (decide_eq_true h1)) ?_
  refine TL_nil ?_
  refine T_cond_true rfl ?_
  refine T_region ?_
  refine TL_y rfl rfl (Y_move rfl) ?_
  refine TL_y rfl rfl (Y_field_addr rfl) ?_
  refine TL_y rfl rfl (Y_load rfl rfl) ?_
  refine TL_pullk b ?_
  refine TL_call rfl rfl (acAbove_spec (s := ⟨s.node, m.bal, s.V⟩) m.slot) ?_
  rintro _ _ ⟨A47, c47, rfl, rfl⟩
  refine TL_freeze_osl ?_
  refine TL_y rfl rfl (Y_field_addr rfl) ?_
  refine TL_store rfl rfl rfl rfl rfl rfl ?_
  refine TL_y rfl rfl (Y_field_addr rfl) ?_
  refine TL_store rfl rfl rfl rfl rfl rfl ?_
  refine TL_nil ?_
  refine T_region_draw (cells b8 [.int .i64 2, .int .i64 s.node, .int .i64 m.frm, .int .i64 m.bal.1, .int .i64 m.bal.2, .int .i64 m.slot, .bool true, .string ⟨#[]⟩, .string ⟨#[]⟩, .int .i64 0, .slice none 0 0, .slice A47 (aboveV s.V m.slot).length c47, .slice none 0 0, .slice none 0 0, .int .i64 0] 44 :: cells b7 [.string (recA s m), .bool (decide (mineA s m)), .bool (decide (mineA s m ∧ nackA s m))] 115 :: []) [0, 0, 2, 1, 15, 31] [] [(0, true), (1, true), (2, true), (3, false), (4, true), (5, true)] (by kernel_rfl) (by decide +kernel) GivesTo.g ?_
  refine TF_y rfl rfl (Y_load_agg rfl rfl) ?_
  refine TF_y rfl rfl (Y_field_addr rfl) ?_
  refine TF_y rfl rfl (Y_load rfl rfl) ?_
  refine TF_anchor rfl ?_
  refine TL_store rfl rfl rfl rfl rfl rfl ?_
  refine TF_end GivesTo.g ?_
  refine TF_y rfl rfl (Y_assign rfl) ?_
  refine TF_y rfl rfl (Y_assign rfl) ?_
  refine TF_nil ?_
  refine T_ret ?_
  refine thenS_ret ?_
  refine RetQ.gives (mL_voted (m := repM s m 2 m.bal (aboveV s.V m.slot)) rfl rfl rfl (slk (A := A47) (c := c47))) ?_
  exact RetG_3 (.inl rfl) rfl (ResV.agg rfl rfl) (ResV.tmp rfl) (ResV.tmp rfl) GivesTo.g (⟨⟨(none, 0), (A47, c47), (none, 0), (none, 0)⟩, rfl, rfl⟩)
theorem acOn_acc {L : List HP} {b : Nat} {s : AccD} (m : MsgD) (p : MsgP) (hx : MsgOk m) (hk : MsgK L m p) (hc : cMsg m ≤ 140737488355328) (hm : mineA s m) (hn : ¬ nackA s m) (h1 : ¬ m.kind = 1) : Fn Try.prog 23 #[.pointer (some ⟨b, 0, none⟩), .agg (List.toArray (msgC m p))] (ac b s :: L) (fun v L' => ∃ q, v = .tuple #[.agg (List.toArray (msgC (repA s m) q)), .string (recA s m), .bool (decide (mineA s m))] ∧ L' = mL (repA s m) q (ac b (stA s m) :: L)) := by
  have e1 : repA s m = repM s m 4 m.bal [] := by unfold repA; rw [if_pos hm, if_neg hn, if_neg h1]
  have e3 : stA s m = ⟨s.node, m.bal, putV s.V (newV m)⟩ := by unfold stA; rw [if_pos ⟨hm, hn⟩, if_neg h1]
  have hst := fun hi : AI s => hi.step hx
  have hvo : votedOk (newV m) := ⟨hx.slot, hx.b1, hx.b2, hx.en⟩
  rw [e3] at hst
  rw [e1, e3, decide_eq_true hm]
  refine Fn_enter Try.func23 rfl rfl rfl rfl ?_
  refine T_region ?_
  refine TL_box rfl rfl rfl ?_
  intro b3
  refine TL_alloc rfl rfl ?_
  intro b4
  refine TL_y rfl rfl (Y_assign rfl) ?_
  refine TL_y rfl rfl (Y_assign rfl) ?_
  refine TL_nil ?_
  refine T_region ?_
  refine TL_y rfl rfl (Y_move rfl) ?_
  refine TL_y rfl rfl (Y_load_agg rfl rfl) ?_
  refine TL_pullk b ?_
  refine TL_call rfl rfl (acJudge_spec m p hx hk.tail.tail hc) ?_
  rintro _ _ ⟨rfl, rfl⟩
  refine TL_name 11 (v' := .agg #[.string (recA s m), .bool (decide (mineA s m)), .bool (decide (mineA s m ∧ nackA s m))]) rfl (rfl) ?_
  refine TL_alloc rfl rfl ?_
  intro b7
  refine TL_store rfl rfl rfl rfl rfl rfl ?_
  refine TL_nil ?_
  refine T_seq ?_
  refine T_region ?_
  refine TL_y rfl rfl (Y_field_addr rfl) ?_
  refine TL_y rfl rfl (Y_load rfl rfl) ?_
  refine TL_name 13 (v' := .bool true) rfl (congrArg Value.bool (decide_eq_true hm)) ?_
  refine TL_y rfl rfl (Y_not_t rfl) ?_
  refine TL_nil ?_
  refine T_cond_false rfl ?_
  refine T_skip ?_
  refine thenS_normal ?_
  refine T_pullk b ?_
  refine T_ac fun bt hi => ?_
  refine T_region_draw _ [0, 1, 3, 7, 0, 16, 0, 64, 192, 448, 0, 1024, 0, 8191, 0, 32767] [] [(0, true), (1, true), (2, true), (3, true), (4, true), (5, true), (6, true), (7, true), (8, true), (9, true), (10, true), (11, true), (12, true), (13, true), (14, false), (15, false)] (by kernel_rfl) (by decide +kernel) (Gives.refl _) ?_
  refine TF_y rfl rfl (Y_move rfl) ?_
  refine TF_y rfl rfl (Y_nil_check rfl) ?_
  refine TF_y rfl rfl (Y_field_addr rfl) ?_
  refine TF_y rfl rfl (Y_load rfl rfl) ?_
  refine TF_y rfl rfl (Y_field_addr rfl) ?_
  refine TF_y rfl rfl (Y_load rfl rfl) ?_
  refine TF_y rfl rfl (Y_move rfl) ?_
  refine TF_y rfl rfl (Y_nil_check rfl) ?_
  refine TF_y rfl rfl (Y_field_addr rfl) ?_
  refine TF_y rfl rfl (Y_load_agg rfl rfl) ?_
  refine TF_y rfl rfl (Y_field_addr rfl) ?_
  refine TF_y rfl rfl (Y_load rfl rfl) ?_
  refine TF_y rfl rfl (Y_build rfl rfl) ?_
  refine TF_y rfl rfl (Y_build rfl rfl) ?_
  refine TF_anchor rfl ?_
  refine TL_alloc rfl rfl ?_
  intro b8
  refine TF_end GivesTo.g ?_
  refine TF_anchor rfl ?_
  refine TL_store rfl rfl rfl rfl rfl rfl ?_
  refine TF_end GivesTo.g ?_
  refine TF_nil ?_
  refine T_seq ?_
  refine T_region ?_
  refine TL_y rfl rfl (Y_field_addr rfl) ?_
  refine TL_y rfl rfl (Y_load rfl rfl) ?_
  refine TL_name 31 (v' := .bool false) rfl (congrArg Value.bool (decide_eq_false fun h => hn h.2)) ?_
  refine TL_nil ?_
  refine T_cond_false rfl ?_
  refine T_skip ?_
  refine thenS_normal ?_
  refine T_region_draw (cells b3 (msgC m p) 44 :: []) [0, 0, 2, 0, 8, 7, 39, 103, 255, 511] [] [(0, true), (1, true), (2, true), (3, true), (4, true), (5, true), (6, true), (7, false), (8, true), (9, false)] (by kernel_rfl) (by decide +kernel) GivesTo.g ?_
  refine TF_y rfl rfl (Y_move rfl) ?_
  refine TF_y rfl rfl (Y_field_addr rfl) ?_
  refine TF_y rfl rfl (Y_load_agg rfl rfl) ?_
  refine TF_y rfl rfl (Y_field_addr rfl) ?_
  refine TF_y rfl rfl (Y_load_agg rfl rfl) ?_
  refine TF_y rfl rfl (Y_nil_check rfl) ?_
  refine TF_y rfl rfl (Y_field_addr rfl) ?_
  refine TF_anchor rfl ?_
  refine TL_store rfl rfl rfl rfl rfl rfl ?_
  refine TF_end GivesTo.g ?_
  refine TF_y rfl rfl (Y_field_addr rfl) ?_
  refine TF_anchor rfl ?_
  refine TL_store rfl rfl rfl rfl rfl rfl ?_
  refine TF_end GivesTo.g ?_
  refine TF_nil ?_
  refine T_seq ?_
  refine T_region ?_
  refine TL_y rfl rfl (Y_field_addr rfl) ?_
  refine TL_y rfl rfl (Y_load rfl rfl) ?_
  refine TL_y rfl rfl (Y_eq rfl rfl) ?_
  refine TL_name 43 (v' := .bool false) rfl (congrArg Value.bool (decide_eq_false h1)) ?_
  refine TL_nil ?_
  refine T_cond_false rfl ?_
  refine T_skip ?_
  refine thenS_normal ?_
  refine T_region_draw _ [0, 1, 3, 7, 0, 16, 0, 64, 0, 256, 0, 1024, 4032, 8128, 16383] [14] [(0, true), (1, true), (2, true), (3, true), (4, true), (5, true), (6, true), (7, true), (8, true), (9, true), (10, true), (11, true), (12, true), (13, false), (14, false)] (by kernel_rfl) (by decide +kernel) (Gives.refl _) ?_
  refine TF_y rfl rfl (Y_move rfl) ?_
  refine TF_y rfl rfl (Y_nil_check rfl) ?_
  refine TF_y rfl rfl (Y_field_addr rfl) ?_
  refine TF_y rfl rfl (Y_load rfl rfl) ?_
  refine TF_y rfl rfl (Y_field_addr rfl) ?_
  refine TF_y rfl rfl (Y_load rfl rfl) ?_
  refine TF_y rfl rfl (Y_field_addr rfl) ?_
  refine TF_y rfl rfl (Y_load rfl rfl) ?_
  refine TF_y rfl rfl (Y_field_addr rfl) ?_
  refine TF_y rfl rfl (Y_load_agg rfl rfl) ?_
  refine TF_y rfl rfl (Y_field_addr rfl) ?_
  refine TF_y rfl rfl (Y_load_agg rfl rfl) ?_
  refine TF_y rfl rfl (Y_build rfl rfl) ?_
  refine TF_anchor rfl ?_
  refine TL_call rfl rfl (acCopied_spec (newV m) (A := p.cut.1) (c := p.cut.2) (SlN.of_gives GivesTo.g hk.cut.n) hx.en) ?_
  rintro _ _ ⟨q, rfl, rfl⟩
  refine TL_freeze_osl ?_
  refine TF_end GivesTo.g ?_
  refine TF_anchor rfl ?_
  refine TL_update (R := votedR) (k := m.slot) (u := newV m) (cs := votedC (newV m) q) (vmap (putV s.V (newV m))) rfl rfl rfl hx.slot (ex_rep q (sep_sl slk) hvo) (put_perm (V := s.V) (v := newV m)) ?_
  refine TF_end_tail rfl ?_
  refine TF_nil ?_
  refine T_region ?_
  refine TL_y rfl rfl (Y_field_addr rfl) ?_
  refine TL_store rfl rfl rfl rfl rfl rfl ?_
  refine TL_nil ?_
  refine T_region_draw (cells b8 [.int .i64 4, .int .i64 s.node, .int .i64 m.frm, .int .i64 m.bal.1, .int .i64 m.bal.2, .int .i64 m.slot, .bool true, .string ⟨#[]⟩, .string ⟨#[]⟩, .int .i64 0, .slice none 0 0, .slice none 0 0, .slice none 0 0, .slice none 0 0, .int .i64 0] 44 :: cells b7 [.string (recA s m), .bool (decide (mineA s m)), .bool (decide (mineA s m ∧ nackA s m))] 115 :: []) [0, 0, 2, 1, 15, 31] [] [(0, true), (1, true), (2, true), (3, false), (4, true), (5, true)] (by kernel_rfl) (by decide +kernel) GivesTo.g ?_
  refine TF_y rfl rfl (Y_load_agg rfl rfl) ?_
  refine TF_y rfl rfl (Y_field_addr rfl) ?_
  refine TF_y rfl rfl (Y_load rfl rfl) ?_
  refine TF_anchor rfl ?_
  refine TL_store rfl rfl rfl rfl rfl rfl ?_
  refine TF_end GivesTo.g ?_
  refine TF_y rfl rfl (Y_assign rfl) ?_
  refine TF_y rfl rfl (Y_assign rfl) ?_
  refine TF_nil ?_
  refine T_ret ?_
  refine RetQ.gives (ac_close (bt := bt) b ⟨s.node, m.bal, putV s.V (newV m)⟩ (hst hi)) ?_
  refine RetQ.gives (mL_nil (m := repM s m 4 m.bal []) rfl rfl rfl rfl) ?_
  exact RetG_3 (.inl rfl) rfl (ResV.agg rfl rfl) (ResV.tmp rfl) (ResV.tmp rfl) GivesTo.g (⟨mP0, rfl, rfl⟩)
theorem acOn_spec {L : List HP} {b : Nat} {s : AccD} (m : MsgD) (p : MsgP) (hx : MsgOk m) (hk : MsgK L m p) (hc : cMsg m ≤ 140737488355328) : Fn Try.prog 23 #[.pointer (some ⟨b, 0, none⟩), .agg (List.toArray (msgC m p))] (ac b s :: L) (fun v L' => ∃ q, v = .tuple #[.agg (List.toArray (msgC (repA s m) q)), .string (recA s m), .bool (decide (mineA s m))] ∧ L' = mL (repA s m) q (ac b (stA s m) :: L)) := by
  by_cases hm : mineA s m
  · by_cases hn : nackA s m
    · exact acOn_nack m p hx hk hc hm hn
    · by_cases h1 : m.kind = 1
      · exact acOn_prep m p hx hk hc hm hn h1
      · exact acOn_acc m p hx hk hc hm hn h1
  · exact acOn_bad m p hx hk hc hm
end Go.SL
set_option linter.unusedVariables false
set_option linter.unusedSimpArgs false
namespace Go.SL
open Go Go.Proofs
theorem refTo_spec (L : List HP) (n most : Int) : Fn Try.prog 129 #[.int .i64 n, .int .i64 most] L (fun v L' => v = .bool (decide (rNum most n)) ∧ L' = L) := by
  refine Fn_enter Try.func129 rfl rfl rfl rfl ?_
  refine T_region ?_
  refine TL_y rfl rfl (Y_assign rfl) ?_
  refine TL_nil ?_
  refine T_region ?_
  refine TL_y rfl rfl (Y_move rfl) ?_
  refine TL_both 6 11 (rNum most n) ?_ ?_
  · refine TL_y rfl rfl (Y_ge rfl rfl) ?_
    refine TL_y rfl rfl (Y_move rfl) ?_
    refine TL_splitd 7 rfl (fun h7 => ?_) (fun h7 => ?_)
    · refine TL_grun rfl rfl ?_
      refine TL_y rfl rfl (Y_move rfl) ?_
      refine TL_grun rfl rfl ?_
      refine TL_y rfl rfl (Y_move rfl) ?_
      refine TL_grun rfl rfl ?_
      refine TL_y rfl rfl (Y_le rfl rfl) ?_
      refine TL_y rfl rfl (Y_pick_t rfl rfl) ?_
      refine TL_chain_end rfl ?_ (by repeat (first | exact sub_refl | refine sub_ext rfl ?_)) GivesTo.g
      exact congrArg Value.bool (decide_eq_decide.2 (by unfold rNum; omega))
    · refine TL_gskip rfl rfl rfl rfl ?_
      refine TL_gskip rfl rfl rfl rfl ?_
      refine TL_gskip rfl rfl rfl rfl ?_
      refine TL_y rfl rfl (Y_pick_f rfl rfl) ?_
      refine TL_chain_end rfl ?_ (by repeat (first | exact sub_refl | refine sub_ext rfl ?_)) GivesTo.g
      exact congrArg Value.bool (decide_eq_false (by unfold rNum; omega)).symm
  refine TL_y rfl rfl (Y_assign rfl) ?_
  refine TL_nil ?_
  refine T_ret ?_
  exact RetG_1 (.inl rfl) rfl (ResV.tmp rfl) GivesTo.g (⟨rfl, rfl⟩)
theorem refVector_spec {L : List HP} {A : Option Addr} {c : Nat} {xs : List Int} (hk : SlK L (intR .i64) A c xs) : Fn Try.prog 132 #[.slice A xs.length c] L (fun v L' => v = .bool (decide (rVec xs)) ∧ L' = L) := by
  refine Fn_enter Try.func132 rfl rfl rfl rfl ?_
  refine T_gives hk.lay ?_
  refine hk.tail.lens fun hl => ?_
  simp only [maxEl] at hl
  refine T_region ?_
  refine TL_y rfl rfl (Y_assign rfl) ?_
  refine TL_nil ?_
  refine T_seq ?_
  refine T_region ?_
  refine TL_y rfl rfl (Y_assign rfl) ?_
  refine TL_nil ?_
  refine T_block ?_
  refine T_loopK (σ := Nat) [0] (fun i => i ≤ xs.length ∧ ∀ n ∈ xs.take i, rNum 2147483647 n) (fun i kv => (3, .int .i64 (i : Int)) :: kv) (fun i => sl (intR .i64) A c xs :: L) (fun i => xs.length - i) (0) rfl (⟨Nat.zero_le _, by simp⟩) (GivesTo.g) (sub_cons rfl (sub_cons rfl (sub_nil))) ?_
  intro i hi
  refine T_seq ?_
  refine T_region ?_
  refine TL_y rfl rfl (Y_move rfl) ?_
  refine TL_y rfl rfl (Y_move rfl) ?_
  refine TL_y rfl rfl (Y_len rfl) ?_
  refine TL_y rfl rfl (Y_lt rfl rfl) ?_
  refine TL_nil ?_
  refine T_if rfl (fun h7 => ?_) (fun h7 => ?_)
  · refine T_skip ?_
    refine thenS_normal ?_
    refine T_seq ?_
    refine T_block ?_
    refine T_region ?_
    refine TL_y rfl rfl (Y_move rfl) ?_
    refine TL_y rfl rfl (Y_move rfl) ?_
    obtain ⟨u, hu⟩ : ∃ u, xs[i]? = some u := ⟨_, List.getElem?_eq_getElem (by omega)⟩
    refine TL_index_int rfl rfl rfl slk hu ?_
    intro hi12 bi12 oi12
    refine TL_y rfl rfl (Y_load_row rfl rfl) ?_
    refine TL_call rfl rfl (refTo_spec _ _ _) ?_
    rintro _ _ ⟨rfl, rfl⟩
    refine TL_y rfl rfl (Y_not_d rfl) ?_
    refine TL_nil ?_
    refine T_if rfl (fun h15 => ?_) (fun h15 => ?_)
    · refine T_region ?_
      refine TL_y rfl rfl (Y_assign rfl) ?_
      refine TL_nil ?_
      refine T_ret ?_
      refine inB_ret ?_
      refine thenS_ret ?_
      refine thenS_ret ?_
      refine inB_ret ?_
      refine thenS_ret ?_
      exact RetG_1 (.inl rfl) rfl (ResV.tmp rfl) GivesTo.g (⟨by rw [decide_eq_false]; intro h; exact h15 (h.1 u (List.mem_of_getElem? hu)), rfl⟩)
    · refine T_skip ?_
      refine inB_normal ?_
      refine thenS_normal ?_
      refine T_region_last ?_
      refine TL_y rfl rfl (Y_move rfl) ?_
      refine TL_y rfl rfl (Y_add rfl rfl (by omega)) ?_
      refine TL_name 9 (v' := .int .i64 ((i + 1 : Nat) : Int)) rfl (rfl) ?_
      refine TL_y rfl rfl (Y_assign rfl) ?_
      refine TL_nil ?_
      refine thenS_normal ?_
      exact ⟨i + 1, ⟨by omega, by rw [take_at hu]; intro n hn; rcases List.mem_append.1 hn with h | h; exact hi.2 n h; (simp at h; subst h; exact Classical.not_not.1 h15)⟩, by omega, holds_to (sub_cons rfl (sub_cons rfl (sub_nil))) GivesTo.g⟩
  · refine T_exit ?_
    refine thenS_exit ?_
    refine thenS_exit ?_
    refine inB_hit ?_
    refine thenS_normal ?_
    refine T_region ?_
    refine TL_y rfl rfl (Y_move rfl) ?_
    refine TL_y rfl rfl (Y_len rfl) ?_
    refine TL_both 15 32 (xs.length ≤ 7 ∧ lastZero xs = false) ?_ ?_
    · refine TL_y rfl rfl (Y_le rfl rfl) ?_
      refine TL_y rfl rfl (Y_move rfl) ?_
      refine TL_splitd 19 rfl (fun h19 => ?_) (fun h19 => ?_)
      · refine TL_grun rfl rfl ?_
        refine TL_y rfl rfl (Y_move rfl) ?_
        refine TL_grun rfl rfl ?_
        refine TL_y rfl rfl (Y_len rfl) ?_
        refine TL_grun rfl rfl ?_
        refine TL_y rfl rfl (Y_eq rfl rfl) ?_
        refine TL_grun rfl rfl ?_
        refine TL_y rfl rfl (Y_move rfl) ?_
        refine TL_splitd 23 rfl (fun h23 => ?_) (fun h23 => ?_)
        · refine TL_gskip rfl rfl rfl rfl ?_
          refine TL_gskip rfl rfl rfl rfl ?_
          refine TL_gskip rfl rfl rfl rfl ?_
          refine TL_gskip rfl rfl rfl rfl ?_
          refine TL_gskip rfl rfl rfl rfl ?_
          refine TL_gskip rfl rfl rfl rfl ?_
          refine TL_gskip rfl rfl rfl rfl ?_
          refine TL_grun rfl rfl ?_
          refine TL_y rfl rfl (Y_pick_t rfl rfl) ?_
          refine TL_y rfl rfl (Y_pick_t rfl rfl) ?_
          refine TL_chain_end rfl ?_ (by repeat (first | exact sub_refl | refine sub_ext rfl ?_)) GivesTo.g
          exact congrArg Value.bool (decide_eq_true (by simp [lastZero]; omega)).symm
        · refine TL_grun rfl rfl ?_
          refine TL_y rfl rfl (Y_move rfl) ?_
          refine TL_grun rfl rfl ?_
          refine TL_y rfl rfl (Y_move rfl) ?_
          refine TL_grun rfl rfl ?_
          refine TL_y rfl rfl (Y_len rfl) ?_
          refine TL_grun rfl rfl ?_
          refine TL_y rfl rfl (Y_sub rfl rfl (by omega)) ?_
          refine TL_name 27 (v' := .int .i64 ((xs.length - 1 : Nat) : Int)) rfl (by congr 1; omega) ?_
          refine TL_grun rfl rfl ?_
          obtain ⟨q, hq⟩ : ∃ q, xs[xs.length - 1]? = some q := ⟨_, List.getElem?_eq_getElem (by omega)⟩
          refine TL_index_int rfl rfl rfl slk hq ?_
          intro hi28 bi28 oi28
          refine TL_grun rfl rfl ?_
          refine TL_y rfl rfl (Y_load_row rfl rfl) ?_
          refine TL_grun rfl rfl ?_
          refine TL_y rfl rfl (Y_ne rfl rfl) ?_
          refine TL_grun rfl rfl ?_
          refine TL_y rfl rfl (Y_pick_f rfl rfl) ?_
          refine TL_y rfl rfl (Y_pick_t rfl rfl) ?_
          refine TL_chain_end rfl ?_ (by repeat (first | exact sub_refl | refine sub_ext rfl ?_)) GivesTo.g
          exact congrArg Value.bool (decide_eq_decide.2 (by simp [lastZero, hq]; omega))
      · refine TL_gskip rfl rfl rfl rfl ?_
        refine TL_gskip rfl rfl rfl rfl ?_
        refine TL_gskip rfl rfl rfl rfl ?_
        refine TL_gskip rfl rfl rfl rfl ?_
        refine TL_gskip_u rfl rfl rfl ?_
        refine TL_gskip_u rfl rfl rfl ?_
        refine TL_gskip_u rfl rfl rfl ?_
        refine TL_gskip_u rfl rfl rfl ?_
        refine TL_gskip_u rfl rfl rfl ?_
        refine TL_gskip_u rfl rfl rfl ?_
        refine TL_gskip_u rfl rfl rfl ?_
        refine TL_gskip rfl rfl rfl rfl ?_
        refine TL_y rfl rfl (Y_pick_f rfl rfl) ?_
        refine TL_chain_end rfl ?_ (by repeat (first | exact sub_refl | refine sub_ext rfl ?_)) GivesTo.g
        exact congrArg Value.bool (decide_eq_false (by simp [lastZero]; omega)).symm
    refine TL_y rfl rfl (Y_assign rfl) ?_
    refine TL_nil ?_
    refine T_ret ?_
    have hall : ∀ n ∈ xs, rNum 2147483647 n := by have := hi.2; rwa [List.take_of_length_le (by omega)] at this
    exact RetG_1 (.inl rfl) rfl (ResV.tmp rfl) GivesTo.g (⟨by rw [decide_eq_decide.2 (show rVec xs ↔ xs.length ≤ 7 ∧ lastZero xs = false from ⟨fun h => h.2, fun h => ⟨hall, h⟩⟩)], rfl⟩)
theorem rightSeal_spec {L : List HP} {A : Option Addr} {c : Nat} (x : OrderD) (hx : orderOk' x) (hk : SlK L (intR .i64) A c x.cut) : Fn Try.prog 160 #[.agg (List.toArray (orderC x (A, c)))] L (fun v L' => v = .bool (decide (rSeal x)) ∧ L' = L) := by
  refine Fn_enter Try.func160 rfl rfl rfl rfl ?_
  refine T_gives hk.lay ?_
  refine T_region ?_
  refine TL_box rfl rfl rfl ?_
  intro b1
  refine TL_y rfl rfl (Y_assign rfl) ?_
  refine TL_nil ?_
  refine T_region ?_
  refine TL_y rfl rfl (Y_field_addr rfl) ?_
  refine TL_y rfl rfl (Y_load rfl rfl) ?_
  refine TL_call rfl rfl (refName_spec _ x.token hx.1) ?_
  rintro _ _ ⟨rfl, rfl⟩
  refine TL_both 15 20 (rSeal x) ?_ ?_
  · refine TL_y rfl rfl (Y_move rfl) ?_
    refine TL_splitd 6 rfl (fun h6 => ?_) (fun h6 => ?_)
    · refine TL_grun rfl rfl ?_
      refine TL_y rfl rfl (Y_field_addr rfl) ?_
      refine TL_grun rfl rfl ?_
      refine TL_y rfl rfl (Y_load rfl rfl) ?_
      refine TL_grun rfl rfl ?_
      refine TL_call rfl rfl (refName_spec _ x.cart hx.2.1) ?_
      rintro _ _ ⟨rfl, rfl⟩
      refine TL_y rfl rfl (Y_pick_t rfl rfl) ?_
      refine TL_y rfl rfl (Y_move rfl) ?_
      refine TL_splitd 11 rfl (fun h11 => ?_) (fun h11 => ?_)
      · refine TL_grun rfl rfl ?_
        refine TL_y rfl rfl (Y_field_addr rfl) ?_
        refine TL_grun rfl rfl ?_
        refine TL_y rfl rfl (Y_load rfl rfl) ?_
        refine TL_grun rfl rfl ?_
        refine TL_call rfl rfl (refTo_spec _ x.epoch 2147483647) ?_
        rintro _ _ ⟨rfl, rfl⟩
        refine TL_y rfl rfl (Y_pick_t rfl rfl) ?_
        refine TL_y rfl rfl (Y_move rfl) ?_
        refine TL_splitd 16 rfl (fun h16 => ?_) (fun h16 => ?_)
        · refine TL_grun rfl rfl ?_
          refine TL_y rfl rfl (Y_field_addr rfl) ?_
          refine TL_grun rfl rfl ?_
          refine TL_y rfl rfl (Y_load rfl rfl) ?_
          refine TL_grun rfl rfl ?_
          refine TL_call rfl rfl (refVector_spec slk) ?_
          rintro _ _ ⟨rfl, rfl⟩
          refine TL_y rfl rfl (Y_pick_t rfl rfl) ?_
          refine TL_chain_end rfl ?_ (by repeat (first | exact sub_refl | refine sub_ext rfl ?_)) GivesTo.g
          exact congrArg Value.bool (decide_eq_decide.2 (by simp [rSeal, *]))
        · refine TL_gskip rfl rfl rfl rfl ?_
          refine TL_gskip rfl rfl rfl rfl ?_
          refine TL_gskip rfl rfl rfl rfl ?_
          refine TL_y rfl rfl (Y_pick_f rfl rfl) ?_
          refine TL_chain_end rfl ?_ (by repeat (first | exact sub_refl | refine sub_ext rfl ?_)) GivesTo.g
          exact congrArg Value.bool (decide_eq_false (by simp [rSeal, *])).symm
      · refine TL_gskip rfl rfl rfl rfl ?_
        refine TL_gskip rfl rfl rfl rfl ?_
        refine TL_gskip rfl rfl rfl rfl ?_
        refine TL_y rfl rfl (Y_pick_f rfl rfl) ?_
        refine TL_y rfl rfl (Y_move rfl) ?_
        refine TL_gskip rfl rfl rfl rfl ?_
        refine TL_gskip rfl rfl rfl rfl ?_
        refine TL_gskip rfl rfl rfl rfl ?_
        refine TL_y rfl rfl (Y_pick_f rfl rfl) ?_
        refine TL_chain_end rfl ?_ (by repeat (first | exact sub_refl | refine sub_ext rfl ?_)) GivesTo.g
        exact congrArg Value.bool (decide_eq_false (by simp [rSeal, *])).symm
    · refine TL_gskip rfl rfl rfl rfl ?_
      refine TL_gskip rfl rfl rfl rfl ?_
      refine TL_gskip rfl rfl rfl rfl ?_
      refine TL_y rfl rfl (Y_pick_f rfl rfl) ?_
      refine TL_y rfl rfl (Y_move rfl) ?_
      refine TL_gskip rfl rfl rfl rfl ?_
      refine TL_gskip rfl rfl rfl rfl ?_
      refine TL_gskip rfl rfl rfl rfl ?_
      refine TL_y rfl rfl (Y_pick_f rfl rfl) ?_
      refine TL_y rfl rfl (Y_move rfl) ?_
      refine TL_gskip rfl rfl rfl rfl ?_
      refine TL_gskip rfl rfl rfl rfl ?_
      refine TL_gskip rfl rfl rfl rfl ?_
      refine TL_y rfl rfl (Y_pick_f rfl rfl) ?_
      refine TL_chain_end rfl ?_ (by repeat (first | exact sub_refl | refine sub_ext rfl ?_)) GivesTo.g
      exact congrArg Value.bool (decide_eq_false (by simp [rSeal, *])).symm
  refine TL_y rfl rfl (Y_assign rfl) ?_
  refine TL_nil ?_
  refine T_ret ?_
  exact RetG_1 (.inl rfl) rfl (ResV.tmp rfl) GivesTo.g (⟨rfl, rfl⟩)
theorem rightEntry_spec {L : List HP} {A : Option Addr} {c : Nat} (e : EntryD) (hx : orderOk' e.order) (hk : SlK L (intR .i64) A c e.order.cut) : Fn Try.prog 131 #[.agg (List.toArray (entryC e (A, c)))] L (fun v L' => v = .bool (decide (rEntry e)) ∧ L' = L) := by
  refine Fn_enter Try.func131 rfl rfl rfl rfl ?_
  refine T_gives hk.lay ?_
  refine T_region ?_
  refine TL_box rfl rfl rfl ?_
  intro b1
  refine TL_y rfl rfl (Y_assign rfl) ?_
  refine TL_nil ?_
  refine T_seq ?_
  refine T_region ?_
  refine TL_y rfl rfl (Y_field_addr rfl) ?_
  refine TL_y rfl rfl (Y_load rfl rfl) ?_
  refine TL_nil ?_
  refine T_cond rfl (fun h4 => ?_) (fun h4 => ?_)
  · refine T_region ?_
    refine TL_y rfl rfl (Y_field_addr rfl) ?_
    refine TL_y rfl rfl (Y_field_addr rfl) ?_
    refine TL_y rfl rfl (Y_load rfl rfl) ?_
    refine TL_both 20 27 (someSeal e.order = false) ?_ ?_
    · refine TL_y rfl rfl (Y_str_eq rfl rfl) ?_
      refine TL_y rfl rfl (Y_move rfl) ?_
      refine TL_splitd 9 rfl (fun h9 => ?_) (fun h9 => ?_)
      · refine TL_grun rfl rfl ?_
        refine TL_y rfl rfl (Y_field_addr rfl) ?_
        refine TL_grun rfl rfl ?_
        refine TL_y rfl rfl (Y_field_addr rfl) ?_
        refine TL_grun rfl rfl ?_
        refine TL_y rfl rfl (Y_load rfl rfl) ?_
        refine TL_grun rfl rfl ?_
        refine TL_y rfl rfl (Y_str_eq rfl rfl) ?_
        refine TL_y rfl rfl (Y_pick_t rfl rfl) ?_
        refine TL_y rfl rfl (Y_move rfl) ?_
        refine TL_splitd 15 rfl (fun h15 => ?_) (fun h15 => ?_)
        · refine TL_grun rfl rfl ?_
          refine TL_y rfl rfl (Y_field_addr rfl) ?_
          refine TL_grun rfl rfl ?_
          refine TL_y rfl rfl (Y_field_addr rfl) ?_
          refine TL_grun rfl rfl ?_
          refine TL_y rfl rfl (Y_load rfl rfl) ?_
          refine TL_grun rfl rfl ?_
          refine TL_y rfl rfl (Y_eq rfl rfl) ?_
          refine TL_y rfl rfl (Y_pick_t rfl rfl) ?_
          refine TL_y rfl rfl (Y_move rfl) ?_
          refine TL_splitd 21 rfl (fun h21 => ?_) (fun h21 => ?_)
          · refine TL_grun rfl rfl ?_
            refine TL_y rfl rfl (Y_field_addr rfl) ?_
            refine TL_grun rfl rfl ?_
            refine TL_y rfl rfl (Y_field_addr rfl) ?_
            refine TL_grun rfl rfl ?_
            refine TL_y rfl rfl (Y_load rfl rfl) ?_
            refine TL_grun rfl rfl ?_
            refine TL_y rfl rfl (Y_len rfl) ?_
            refine TL_grun rfl rfl ?_
            refine TL_y rfl rfl (Y_eq rfl rfl) ?_
            refine TL_y rfl rfl (Y_pick_t rfl rfl) ?_
            refine TL_chain_end rfl ?_ (by repeat (first | exact sub_refl | refine sub_ext rfl ?_)) GivesTo.g
            exact congrArg Value.bool (decide_eq_decide.2 (by simp [someSeal, emptyS, *]))
          · refine TL_gskip rfl rfl rfl rfl ?_
            refine TL_gskip rfl rfl rfl rfl ?_
            refine TL_gskip rfl rfl rfl rfl ?_
            refine TL_gskip rfl rfl rfl rfl ?_
            refine TL_gskip rfl rfl rfl rfl ?_
            refine TL_y rfl rfl (Y_pick_f rfl rfl) ?_
            refine TL_chain_end rfl ?_ (by repeat (first | exact sub_refl | refine sub_ext rfl ?_)) GivesTo.g
            exact congrArg Value.bool (decide_eq_false (by simp [someSeal, emptyS, *])).symm
        · refine TL_gskip rfl rfl rfl rfl ?_
          refine TL_gskip rfl rfl rfl rfl ?_
          refine TL_gskip rfl rfl rfl rfl ?_
          refine TL_gskip rfl rfl rfl rfl ?_
          refine TL_y rfl rfl (Y_pick_f rfl rfl) ?_
          refine TL_y rfl rfl (Y_move rfl) ?_
          refine TL_gskip rfl rfl rfl rfl ?_
          refine TL_gskip rfl rfl rfl rfl ?_
          refine TL_gskip rfl rfl rfl rfl ?_
          refine TL_gskip rfl rfl rfl rfl ?_
          refine TL_gskip rfl rfl rfl rfl ?_
          refine TL_y rfl rfl (Y_pick_f rfl rfl) ?_
          refine TL_chain_end rfl ?_ (by repeat (first | exact sub_refl | refine sub_ext rfl ?_)) GivesTo.g
          exact congrArg Value.bool (decide_eq_false (by simp [someSeal, emptyS, *])).symm
      · refine TL_gskip rfl rfl rfl rfl ?_
        refine TL_gskip rfl rfl rfl rfl ?_
        refine TL_gskip rfl rfl rfl rfl ?_
        refine TL_gskip rfl rfl rfl rfl ?_
        refine TL_y rfl rfl (Y_pick_f rfl rfl) ?_
        refine TL_y rfl rfl (Y_move rfl) ?_
        refine TL_gskip rfl rfl rfl rfl ?_
        refine TL_gskip rfl rfl rfl rfl ?_
        refine TL_gskip rfl rfl rfl rfl ?_
        refine TL_gskip rfl rfl rfl rfl ?_
        refine TL_y rfl rfl (Y_pick_f rfl rfl) ?_
        refine TL_y rfl rfl (Y_move rfl) ?_
        refine TL_gskip rfl rfl rfl rfl ?_
        refine TL_gskip rfl rfl rfl rfl ?_
        refine TL_gskip rfl rfl rfl rfl ?_
        refine TL_gskip rfl rfl rfl rfl ?_
        refine TL_gskip rfl rfl rfl rfl ?_
        refine TL_y rfl rfl (Y_pick_f rfl rfl) ?_
        refine TL_chain_end rfl ?_ (by repeat (first | exact sub_refl | refine sub_ext rfl ?_)) GivesTo.g
        exact congrArg Value.bool (decide_eq_false (by simp [someSeal, emptyS, *])).symm
    refine TL_y rfl rfl (Y_assign rfl) ?_
    refine TL_nil ?_
    refine T_ret ?_
    refine thenS_ret ?_
    exact RetG_1 (.inl rfl) rfl (ResV.tmp rfl) GivesTo.g (⟨by rw [decide_eq_decide.2 (show rEntry e ↔ someSeal e.order = false by unfold rEntry; rw [if_pos h4])], rfl⟩)
  · refine T_skip ?_
    refine thenS_normal ?_
    refine T_region ?_
    refine TL_y rfl rfl (Y_field_addr rfl) ?_
    refine TL_y rfl rfl (Y_load_agg rfl rfl) ?_
    refine TL_call rfl rfl (rightSeal_spec e.order hx slk) ?_
    rintro _ _ ⟨rfl, rfl⟩
    refine TL_y rfl rfl (Y_assign rfl) ?_
    refine TL_nil ?_
    refine T_ret ?_
    exact RetG_1 (.inl rfl) rfl (ResV.tmp rfl) GivesTo.g (⟨by rw [decide_eq_decide.2 (show rEntry e ↔ rSeal e.order by unfold rEntry; rw [if_neg (by simp [h4])])], rfl⟩)
end Go.SL
