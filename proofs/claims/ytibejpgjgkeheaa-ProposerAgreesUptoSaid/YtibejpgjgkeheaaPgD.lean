/- What the laws of this claim need, together: the logic, data in memory, the walks of functions. -/
import Derived.Test.YtibejpgjgkeheaaPgC
set_option linter.unusedVariables false
set_option linter.unusedSimpArgs false
set_option linter.unusedVariables false
set_option linter.unusedSimpArgs false
namespace Go.SL
open Go Go.Proofs
set_option maxRecDepth 20000 in
theorem acJudge_accN {L : List HP} {b : Nat} {s : AccD} (m : MsgD) (p : MsgP) (hx : MsgOk m) (hk : MsgK L m p) (hc : cMsg m ≤ 140737488355328) (hm : mineA s m) (h3 : m.kind = 3) (hg : getM (vmap s.V) m.slot = none) : Fn Try.prog 62 #[.pointer (some ⟨b, 0, none⟩), .agg (List.toArray (msgC m p))] (ac b s :: L) (fun v L' => v = judgeV s m ∧ L' = ac b s :: L) := by
  refine Fn_enter Try.func62 rfl rfl rfl rfl ?_
  refine T_region ?_
  refine TL_box rfl rfl rfl ?_
  intro b3
  refine TL_alloc rfl rfl ?_
  intro b4
  refine TL_nil ?_
  refine T_region ?_
  refine TL_y rfl rfl (Y_load_agg rfl rfl) ?_
  refine TL_call rfl rfl (msg_spec m p hx hk.tail.tail.tail hc) ?_
  rintro _ _ ⟨A16, c16, rfl, rfl⟩
  refine TL_y rfl rfl (Y_move rfl) ?_
  refine TL_y rfl rfl (Y_extract rfl rfl) ?_
  refine TL_y rfl rfl (Y_extract rfl rfl) ?_
  refine TL_y rfl rfl (Y_assign rfl) ?_
  refine TL_y rfl rfl (Y_assign rfl) ?_
  refine TL_nil ?_
  refine T_seq ?_
  refine T_region_draw _ [0, 1, 3, 7, 15, 31, 63, 127, 255, 511, 255, 1279, 3327, 7423, 16383, 32767, 65535, 131071, 262143, 524287, 1048575, 2097151, 4194303, 8388607, 16777215, 33554431] [] [(0, true), (1, false), (2, true), (3, true), (4, true), (5, true), (6, true), (7, true), (8, true), (9, true), (10, true), (11, true), (12, true), (13, true), (14, true), (15, true), (16, true), (17, true), (18, true), (19, true), (20, true), (21, true), (22, true), (23, true), (24, true), (25, true)] (by kernel_rfl) (by decide +kernel) (Gives.refl _) ?_
  refine TF_y rfl rfl (Y_move rfl) ?_
  refine TF_anchor rfl ?_
  refine TL_pullk b ?_
  refine TL_call rfl rfl (acMade_spec) ?_
  rintro _ _ ⟨rfl, rfl⟩
  refine TL_name 20 (v' := .bool true) rfl (rfl) ?_
  refine TF_end GivesTo.g ?_
  refine TF_y rfl rfl (Y_not_t rfl) ?_
  refine TF_y rfl rfl (Y_move rfl) ?_
  refine TF_gy rfl rfl rfl rfl (Y_move rfl) ?_
  refine TF_gy rfl rfl rfl rfl (Y_ne rfl rfl) ?_
  refine TF_name 24 (v' := .bool false) rfl (congrArg Value.bool (decide_eq_false (by have := hm.1; omega))) ?_
  refine TF_y rfl rfl (Y_pick_f rfl rfl) ?_
  refine TF_y rfl rfl (Y_move rfl) ?_
  refine TF_gy rfl rfl rfl rfl (Y_field_addr rfl) ?_
  refine TF_gy rfl rfl rfl rfl (Y_load rfl rfl) ?_
  refine TF_gy rfl rfl rfl rfl (Y_move rfl) ?_
  refine TF_gy rfl rfl rfl rfl (Y_nil_check rfl) ?_
  refine TF_gy rfl rfl rfl rfl (Y_field_addr rfl) ?_
  refine TF_gy rfl rfl rfl rfl (Y_ac (b := b) fun bt => Y_load rfl rfl) ?_
  refine TF_gy rfl rfl rfl rfl (Y_ne rfl rfl) ?_
  refine TF_name 33 (v' := .bool false) rfl (congrArg Value.bool (decide_eq_false (by have := hm.2.1; omega))) ?_
  refine TF_y rfl rfl (Y_pick_f rfl rfl) ?_
  refine TF_y rfl rfl (Y_move rfl) ?_
  refine TF_gy rfl rfl rfl rfl (Y_field_addr rfl) ?_
  refine TF_gy rfl rfl rfl rfl (Y_load rfl rfl) ?_
  refine TF_gy rfl rfl rfl rfl (Y_ne rfl rfl) ?_
  refine TF_name 38 (v' := .bool true) rfl (congrArg Value.bool (decide_eq_true (by omega))) ?_
  refine TF_gy rfl rfl rfl rfl (Y_move rfl) ?_
  refine TF_gy rfl rfl rfl rfl (Y_field_addr rfl) ?_
  refine TF_gy rfl rfl rfl rfl (Y_load rfl rfl) ?_
  refine TF_gy rfl rfl rfl rfl (Y_ne rfl rfl) ?_
  refine TF_name 42 (v' := .bool false) rfl (congrArg Value.bool (decide_eq_false (by omega))) ?_
  refine TF_gy rfl rfl rfl rfl (Y_pick_t rfl rfl) ?_
  refine TF_y rfl rfl (Y_pick_f rfl rfl) ?_
  refine TF_nil ?_
  refine T_cond_false rfl ?_
  refine T_skip ?_
  refine thenS_normal ?_
  refine T_pullk b ?_
  refine T_ac fun bt hi => ?_
  refine T_rd [0, 1, 3, 7, 0, 16, 63, 127, 255, 255, 0, 1535, 4095] (by kernel_rfl) (by decide +kernel) ?_
  refine RD_pair 6 10 (by decide) ?_ ?_
  · refine RD_leaf _ [0, 1, 3, 7, 0, 16, 63, 127, 255, 255, 127, 1535, 4095] [] [(0, true), (1, true), (2, true), (3, true), (4, true), (5, true), (6, false), (7, true), (8, true), (9, true), (10, false), (11, false), (12, true)] (by decide +kernel) (Gives.refl _) ?_
    refine TF_y rfl rfl (Y_move rfl) ?_
    refine TF_y rfl rfl (Y_nil_check rfl) ?_
    refine TF_y rfl rfl (Y_field_addr rfl) ?_
    refine TF_y rfl rfl (Y_load rfl rfl) ?_
    refine TF_y rfl rfl (Y_field_addr rfl) ?_
    refine TF_y rfl rfl (Y_load rfl rfl) ?_
    refine TF_anchor rfl ?_
    refine TL_lookup_okx (R := votedR) (k := m.slot) rfl rfl rfl hx.slot (fun hn => ?_) (fun u p hu hou => absurd hu (by rw [hg]; simp))
    refine TF_end GivesTo.g ?_
    refine TF_y rfl rfl (Y_move rfl) ?_
    refine TF_y rfl rfl (Y_extract rfl rfl) ?_
    refine TF_y rfl rfl (Y_extract rfl rfl) ?_
    refine TF_name 55 (v' := .bool false) rfl (rfl) ?_
    refine TF_anchor rfl ?_
    refine TL_alloc rfl rfl ?_
    intro b7
    refine TF_end GivesTo.g ?_
    refine TF_anchor rfl ?_
    refine TL_store rfl rfl rfl rfl rfl rfl ?_
    refine TF_end GivesTo.g ?_
    refine TF_y rfl rfl (Y_assign rfl) ?_
    refine TF_nil ?_
    refine thenS_normal ?_
    refine T_region ?_
    refine TL_y rfl rfl (Y_field_addr rfl) ?_
    refine TL_y rfl rfl (Y_load rfl rfl) ?_
    refine TL_y rfl rfl (Y_eq rfl rfl) ?_
    refine TL_name 58 (v' := .bool true) rfl (congrArg Value.bool (decide_eq_true h3)) ?_
    refine TL_y rfl rfl (Y_assign rfl) ?_
    refine TL_nil ?_
    refine T_seq ?_
    refine T_region_draw _ [0, 1, 0, 4, 12, 28, 63, 127, 255, 511, 1023, 2047, 4095, 8191, 16383, 32767, 65535, 131071, 262143, 524287, 1048575, 2097151, 4194303] [] [(0, true), (1, true), (2, true), (3, true), (4, true), (5, true), (6, false), (7, true), (8, true), (9, true), (10, true), (11, true), (12, true), (13, true), (14, true), (15, true), (16, true), (17, true), (18, true), (19, true), (20, true), (21, true), (22, true)] (by kernel_rfl) (by decide +kernel) (Gives.refl _) ?_
    refine TF_y rfl rfl (Y_field_addr rfl) ?_
    refine TF_y rfl rfl (Y_load_agg rfl rfl) ?_
    refine TF_y rfl rfl (Y_move rfl) ?_
    refine TF_y rfl rfl (Y_nil_check rfl) ?_
    refine TF_y rfl rfl (Y_field_addr rfl) ?_
    refine TF_y rfl rfl (Y_load_agg rfl rfl) ?_
    refine TF_anchor rfl ?_
    refine TL_call rfl rfl (compare_spec m.bal s.prom _) ?_
    rintro _ _ ⟨rfl, rfl⟩
    refine TF_end GivesTo.g ?_
    refine TF_y rfl rfl (Y_lt rfl rfl) ?_
    refine TF_y rfl rfl (Y_move rfl) ?_
    refine TF_splitd 67 rfl (fun h67 => ?_) (fun h67 => ?_)
    · refine TF_gskip rfl rfl rfl rfl rfl ?_
      refine TF_gskip rfl rfl rfl rfl rfl ?_
      refine TF_gskip_u rfl rfl rfl rfl ?_
      refine TF_gskip_u rfl rfl rfl rfl ?_
      refine TF_gskip rfl rfl rfl rfl rfl ?_
      refine TF_gskip rfl rfl rfl rfl rfl ?_
      refine TF_gskip_u rfl rfl rfl rfl ?_
      refine TF_gskip_u rfl rfl rfl rfl ?_
      refine TF_gskip_u rfl rfl rfl rfl ?_
      refine TF_gskip_u rfl rfl rfl rfl ?_
      refine TF_gskip_u rfl rfl rfl rfl ?_
      refine TF_gskip_u rfl rfl rfl rfl ?_
      refine TF_gskip rfl rfl rfl rfl rfl ?_
      refine TF_y rfl rfl (Y_pick_t rfl rfl) ?_
      refine TF_nil ?_
      refine T_cond_true rfl ?_
      refine T_region ?_
      refine TL_y rfl rfl (Y_build rfl rfl) ?_
      refine TL_store rfl rfl rfl rfl rfl rfl ?_
      refine TL_nil ?_
      refine T_ret ?_
      refine thenS_ret ?_
      have hn : nackA s m := by unfold nackA; rw [hg]; first | (left; omega) | (right; exact ⟨h3, rfl, by omega⟩)
      have hj : judgeV s m = .agg #[.string ⟨#[]⟩, .bool true, .bool true] := by unfold judgeV recA; rw [if_neg (fun h => h.2.1 hn), decide_eq_true hm, decide_eq_true (And.intro hm hn)]
      rw [hj]
      refine RetQ.gives (ac_close b s hi) ?_
      exact RetG_1 (.inl rfl) rfl (ResV.agg rfl rfl) GivesTo.g (⟨rfl, rfl⟩)
    · refine TF_gy rfl rfl rfl rfl (Y_move rfl) ?_
      refine TF_gy rfl rfl rfl rfl (Y_move rfl) ?_
      refine TF_gy rfl rfl rfl rfl (Y_move rfl) ?_
      refine TF_gy rfl rfl rfl rfl (Y_not_f rfl) ?_
      refine TF_gy rfl rfl rfl rfl (Y_pick_t rfl rfl) ?_
      refine TF_gy rfl rfl rfl rfl (Y_move rfl) ?_
      refine TF_gy rfl rfl rfl rfl (Y_move rfl) ?_
      refine TF_gy rfl rfl rfl rfl (Y_nil_check rfl) ?_
      refine TF_gy rfl rfl rfl rfl (Y_field_addr rfl) ?_
      refine TF_gy rfl rfl rfl rfl (Y_load rfl rfl) ?_
      refine TF_gy rfl rfl rfl rfl (Y_len_map rfl ) ?_
      refine TF_name 78 (v' := .int .i64 (s.V.length : Int)) rfl (by simp) ?_
      refine TF_gy rfl rfl rfl rfl (Y_ge rfl rfl) ?_
      refine TF_gy rfl rfl rfl rfl (Y_pick_t rfl rfl) ?_
      refine TF_y rfl rfl (Y_pick_f rfl rfl) ?_
      refine TF_nil ?_
      refine T_if rfl (fun h81 => ?_) (fun h81 => ?_)
      · refine T_region ?_
        refine TL_y rfl rfl (Y_build rfl rfl) ?_
        refine TL_store rfl rfl rfl rfl rfl rfl ?_
        refine TL_nil ?_
        refine T_ret ?_
        refine thenS_ret ?_
        have hn : nackA s m := by unfold nackA; rw [hg]; first | (left; omega) | (right; exact ⟨h3, rfl, by omega⟩)
        have hj : judgeV s m = .agg #[.string ⟨#[]⟩, .bool true, .bool true] := by unfold judgeV recA; rw [if_neg (fun h => h.2.1 hn), decide_eq_true hm, decide_eq_true (And.intro hm hn)]
        rw [hj]
        refine RetQ.gives (ac_close b s hi) ?_
        exact RetG_1 (.inl rfl) rfl (ResV.agg rfl rfl) GivesTo.g (⟨rfl, rfl⟩)
      · refine T_skip ?_
        refine thenS_normal ?_
        have hn : ¬ nackA s m := by unfold nackA; rintro (h | ⟨_, _, h⟩) <;> omega
        refine T_region_draw _ [0, 1, 3, 7, 0, 16, 63, 127] [] [(0, true), (1, true), (2, true), (3, true), (4, true), (5, true), (6, true), (7, true)] (by kernel_rfl) (by decide +kernel) (Gives.refl _) ?_
        refine TF_y rfl rfl (Y_move rfl) ?_
        refine TF_y rfl rfl (Y_nil_check rfl) ?_
        refine TF_y rfl rfl (Y_field_addr rfl) ?_
        refine TF_y rfl rfl (Y_load_agg rfl rfl) ?_
        refine TF_y rfl rfl (Y_field_addr rfl) ?_
        refine TF_y rfl rfl (Y_load_agg rfl rfl) ?_
        refine TF_y rfl rfl (Y_ne_bal rfl rfl) ?_
        refine TF_name 89 (v' := .bool (decide (s.prom ≠ m.bal))) rfl (by by_cases h : s.prom = m.bal <;> simp [h]) ?_
        refine TF_y rfl rfl (Y_assign rfl) ?_
        refine TF_nil ?_
        refine T_seq ?_
        refine T_region ?_
        refine TL_y rfl rfl (Y_move rfl) ?_
        refine TL_nil ?_
        refine T_cond_true rfl ?_
        refine T_rd [0, 1, 3, 0, 8, 24, 0, 0, 199, 511] (by kernel_rfl) (by decide +kernel) ?_
        refine RD_pair 6 7 (by decide) ?_ ?_
        · refine RD_leaf _ [0, 1, 3, 0, 8, 24, 0, 64, 199, 511] [] [(0, true), (1, true), (2, true), (3, true), (4, true), (5, true), (6, false), (7, false), (8, false), (9, false)] (by decide +kernel) (Gives.refl _) ?_
          refine TF_y rfl rfl (Y_field_addr rfl) ?_
          refine TF_y rfl rfl (Y_field_addr rfl) ?_
          refine TF_y rfl rfl (Y_load_agg rfl rfl) ?_
          refine TF_y rfl rfl (Y_field_addr rfl) ?_
          refine TF_y rfl rfl (Y_field_addr rfl) ?_
          refine TF_y rfl rfl (Y_load_agg rfl rfl) ?_
          refine TF_anchor rfl ?_
          refine TL_alloc rfl rfl ?_
          intro b11
          refine TF_end GivesTo.g ?_
          refine TF_anchor rfl ?_
          refine TL_alloc rfl rfl ?_
          intro b12
          refine TF_end GivesTo.g ?_
          refine TF_anchor rfl ?_
          refine TL_store rfl rfl rfl rfl rfl rfl ?_
          refine TF_end GivesTo.g ?_
          refine TF_anchor rfl ?_
          refine TL_store rfl rfl rfl rfl rfl rfl ?_
          refine TF_end GivesTo.g ?_
          refine TF_nil ?_
          refine thenS_normal ?_
          refine T_region ?_
          refine TL_y rfl rfl (Y_move rfl) ?_
          refine TL_y rfl rfl (Y_move rfl) ?_
          refine TL_gskip rfl rfl rfl rfl ?_
          refine TL_gskip rfl rfl rfl rfl ?_
          refine TL_gskip rfl rfl rfl rfl ?_
          refine TL_gskip rfl rfl rfl rfl ?_
          refine TL_gskip rfl rfl rfl rfl ?_
          refine TL_y rfl rfl (Y_pick_f rfl rfl) ?_
          refine TL_y rfl rfl (Y_move rfl) ?_
          refine TL_gskip rfl rfl rfl rfl ?_
          refine TL_gskip rfl rfl rfl rfl ?_
          refine TL_gskip rfl rfl rfl rfl ?_
          refine TL_gskip rfl rfl rfl rfl ?_
          refine TL_gskip rfl rfl rfl rfl ?_
          refine TL_gskip rfl rfl rfl rfl ?_
          refine TL_gskip rfl rfl rfl rfl ?_
          refine TL_y rfl rfl (Y_pick_f rfl rfl) ?_
          refine TL_y rfl rfl (Y_move rfl) ?_
          refine TL_gskip rfl rfl rfl rfl ?_
          refine TL_gskip rfl rfl rfl rfl ?_
          refine TL_gskip rfl rfl rfl rfl ?_
          refine TL_gskip rfl rfl rfl rfl ?_
          refine TL_gskip rfl rfl rfl rfl ?_
          refine TL_y rfl rfl (Y_pick_f rfl rfl) ?_
          refine TL_y rfl rfl (Y_move rfl) ?_
          refine TL_gskip rfl rfl rfl rfl ?_
          refine TL_gskip rfl rfl rfl rfl ?_
          refine TL_gskip rfl rfl rfl rfl ?_
          refine TL_gskip rfl rfl rfl rfl ?_
          refine TL_gskip rfl rfl rfl rfl ?_
          refine TL_y rfl rfl (Y_pick_f rfl rfl) ?_
          refine TL_y rfl rfl (Y_move rfl) ?_
          refine TL_gskip rfl rfl rfl rfl ?_
          refine TL_gskip rfl rfl rfl rfl ?_
          refine TL_gskip rfl rfl rfl rfl ?_
          refine TL_gskip rfl rfl rfl rfl ?_
          refine TL_gskip rfl rfl rfl rfl ?_
          refine TL_y rfl rfl (Y_pick_f rfl rfl) ?_
          refine TL_y rfl rfl (Y_move rfl) ?_
          refine TL_gskip rfl rfl rfl rfl ?_
          refine TL_gskip rfl rfl rfl rfl ?_
          refine TL_gskip rfl rfl rfl rfl ?_
          refine TL_gskip rfl rfl rfl rfl ?_
          refine TL_gskip rfl rfl rfl rfl ?_
          refine TL_y rfl rfl (Y_pick_f rfl rfl) ?_
          refine TL_y rfl rfl (Y_assign rfl) ?_
          refine TL_nil ?_
          refine T_region_last ?_
          refine TL_y rfl rfl (Y_move rfl) ?_
          refine TL_y rfl rfl (Y_move rfl) ?_
          refine TL_splitd 143 rfl (fun h143 => ?_) (fun h143 => ?_)
          · refine TL_gskip rfl rfl rfl rfl ?_
            refine TL_gskip rfl rfl rfl rfl ?_
            refine TL_y rfl rfl (Y_pick_t rfl rfl) ?_
            refine TL_y rfl rfl (Y_assign rfl) ?_
            refine TL_nil ?_
            refine thenS_normal ?_
            refine T_seq ?_
            refine T_region ?_
            refine TL_y rfl rfl (Y_move rfl) ?_
            refine TL_y rfl rfl (Y_not_t rfl) ?_
            refine TL_nil ?_
            refine T_cond_false rfl ?_
            refine T_skip ?_
            refine thenS_normal ?_
            refine T_region ?_
            refine TL_y rfl rfl (Y_move rfl) ?_
            refine TL_y rfl rfl (Y_bytes_strN rfl sln) ?_
            refine TL_y rfl rfl (Y_build rfl rfl) ?_
            refine TL_store rfl rfl rfl rfl rfl rfl ?_
            refine TL_nil ?_
            refine T_ret ?_
            have hch : chgA s m := .inr ⟨h3, by rw [hg]; simp⟩
            have hj : judgeV s m = .agg #[.string (strOfNums (outB (wMsg m ([], false)))), .bool true, .bool false] := by unfold judgeV recA; rw [if_pos ⟨hm, hn, hch⟩, decide_eq_true hm, decide_eq_false (fun h => hn h.2)]
            rw [hj]
            refine RetQ.gives (ac_close b s hi) ?_
            exact RetG_1 (.inl rfl) rfl (ResV.agg rfl rfl) GivesTo.g (⟨rfl, rfl⟩)
          · refine TL_grun rfl rfl ?_
            refine TL_y rfl rfl (Y_move rfl) ?_
            refine TL_grun rfl rfl ?_
            refine TL_y rfl rfl (Y_not_f rfl) ?_
            refine TL_y rfl rfl (Y_pick_f rfl rfl) ?_
            refine TL_y rfl rfl (Y_assign rfl) ?_
            refine TL_nil ?_
            refine thenS_normal ?_
            refine T_seq ?_
            refine T_region ?_
            refine TL_y rfl rfl (Y_move rfl) ?_
            refine TL_y rfl rfl (Y_not_t rfl) ?_
            refine TL_nil ?_
            refine T_cond_false rfl ?_
            refine T_skip ?_
            refine thenS_normal ?_
            refine T_region ?_
            refine TL_y rfl rfl (Y_move rfl) ?_
            refine TL_y rfl rfl (Y_bytes_strN rfl sln) ?_
            refine TL_y rfl rfl (Y_build rfl rfl) ?_
            refine TL_store rfl rfl rfl rfl rfl rfl ?_
            refine TL_nil ?_
            refine T_ret ?_
            have hch : chgA s m := .inr ⟨h3, by rw [hg]; simp⟩
            have hj : judgeV s m = .agg #[.string (strOfNums (outB (wMsg m ([], false)))), .bool true, .bool false] := by unfold judgeV recA; rw [if_pos ⟨hm, hn, hch⟩, decide_eq_true hm, decide_eq_false (fun h => hn h.2)]
            rw [hj]
            refine RetQ.gives (ac_close b s hi) ?_
            exact RetG_1 (.inl rfl) rfl (ResV.agg rfl rfl) GivesTo.g (⟨rfl, rfl⟩)
        · refine RD_leaf _ [0, 1, 3, 0, 8, 24, 128, 0, 199, 511] [] [(0, true), (1, true), (2, true), (3, true), (4, true), (5, true), (7, false), (6, false), (8, false), (9, false)] (by decide +kernel) (Gives.refl _) ?_
          refine TF_y rfl rfl (Y_field_addr rfl) ?_
          refine TF_y rfl rfl (Y_field_addr rfl) ?_
          refine TF_y rfl rfl (Y_load_agg rfl rfl) ?_
          refine TF_y rfl rfl (Y_field_addr rfl) ?_
          refine TF_y rfl rfl (Y_field_addr rfl) ?_
          refine TF_y rfl rfl (Y_load_agg rfl rfl) ?_
          refine TF_anchor rfl ?_
          refine TL_alloc rfl rfl ?_
          intro b12
          refine TF_end GivesTo.g ?_
          refine TF_anchor rfl ?_
          refine TL_alloc rfl rfl ?_
          intro b11
          refine TF_end GivesTo.g ?_
          refine TF_anchor rfl ?_
          refine TL_store rfl rfl rfl rfl rfl rfl ?_
          refine TF_end GivesTo.g ?_
          refine TF_anchor rfl ?_
          refine TL_store rfl rfl rfl rfl rfl rfl ?_
          refine TF_end GivesTo.g ?_
          refine TF_nil ?_
          refine thenS_normal ?_
          refine T_region ?_
          refine TL_y rfl rfl (Y_move rfl) ?_
          refine TL_y rfl rfl (Y_move rfl) ?_
          refine TL_gskip rfl rfl rfl rfl ?_
          refine TL_gskip rfl rfl rfl rfl ?_
          refine TL_gskip rfl rfl rfl rfl ?_
          refine TL_gskip rfl rfl rfl rfl ?_
          refine TL_gskip rfl rfl rfl rfl ?_
          refine TL_y rfl rfl (Y_pick_f rfl rfl) ?_
          refine TL_y rfl rfl (Y_move rfl) ?_
          refine TL_gskip rfl rfl rfl rfl ?_
          refine TL_gskip rfl rfl rfl rfl ?_
          refine TL_gskip rfl rfl rfl rfl ?_
          refine TL_gskip rfl rfl rfl rfl ?_
          refine TL_gskip rfl rfl rfl rfl ?_
          refine TL_gskip rfl rfl rfl rfl ?_
          refine TL_gskip rfl rfl rfl rfl ?_
          refine TL_y rfl rfl (Y_pick_f rfl rfl) ?_
          refine TL_y rfl rfl (Y_move rfl) ?_
          refine TL_gskip rfl rfl rfl rfl ?_
          refine TL_gskip rfl rfl rfl rfl ?_
          refine TL_gskip rfl rfl rfl rfl ?_
          refine TL_gskip rfl rfl rfl rfl ?_
          refine TL_gskip rfl rfl rfl rfl ?_
          refine TL_y rfl rfl (Y_pick_f rfl rfl) ?_
          refine TL_y rfl rfl (Y_move rfl) ?_
          refine TL_gskip rfl rfl rfl rfl ?_
          refine TL_gskip rfl rfl rfl rfl ?_
          refine TL_gskip rfl rfl rfl rfl ?_
          refine TL_gskip rfl rfl rfl rfl ?_
          refine TL_gskip rfl rfl rfl rfl ?_
          refine TL_y rfl rfl (Y_pick_f rfl rfl) ?_
          refine TL_y rfl rfl (Y_move rfl) ?_
          refine TL_gskip rfl rfl rfl rfl ?_
          refine TL_gskip rfl rfl rfl rfl ?_
          refine TL_gskip rfl rfl rfl rfl ?_
          refine TL_gskip rfl rfl rfl rfl ?_
          refine TL_gskip rfl rfl rfl rfl ?_
          refine TL_y rfl rfl (Y_pick_f rfl rfl) ?_
          refine TL_y rfl rfl (Y_move rfl) ?_
          refine TL_gskip rfl rfl rfl rfl ?_
          refine TL_gskip rfl rfl rfl rfl ?_
          refine TL_gskip rfl rfl rfl rfl ?_
          refine TL_gskip rfl rfl rfl rfl ?_
          refine TL_gskip rfl rfl rfl rfl ?_
          refine TL_y rfl rfl (Y_pick_f rfl rfl) ?_
          refine TL_y rfl rfl (Y_assign rfl) ?_
          refine TL_nil ?_
          refine T_region_last ?_
          refine TL_y rfl rfl (Y_move rfl) ?_
          refine TL_y rfl rfl (Y_move rfl) ?_
          refine TL_splitd 143 rfl (fun h143 => ?_) (fun h143 => ?_)
          · refine TL_gskip rfl rfl rfl rfl ?_
            refine TL_gskip rfl rfl rfl rfl ?_
            refine TL_y rfl rfl (Y_pick_t rfl rfl) ?_
            refine TL_y rfl rfl (Y_assign rfl) ?_
            refine TL_nil ?_
            refine thenS_normal ?_
            refine T_seq ?_
            refine T_region ?_
            refine TL_y rfl rfl (Y_move rfl) ?_
            refine TL_y rfl rfl (Y_not_t rfl) ?_
            refine TL_nil ?_
            refine T_cond_false rfl ?_
            refine T_skip ?_
            refine thenS_normal ?_
            refine T_region ?_
            refine TL_y rfl rfl (Y_move rfl) ?_
            refine TL_y rfl rfl (Y_bytes_strN rfl sln) ?_
            refine TL_y rfl rfl (Y_build rfl rfl) ?_
            refine TL_store rfl rfl rfl rfl rfl rfl ?_
            refine TL_nil ?_
            refine T_ret ?_
            have hch : chgA s m := .inr ⟨h3, by rw [hg]; simp⟩
            have hj : judgeV s m = .agg #[.string (strOfNums (outB (wMsg m ([], false)))), .bool true, .bool false] := by unfold judgeV recA; rw [if_pos ⟨hm, hn, hch⟩, decide_eq_true hm, decide_eq_false (fun h => hn h.2)]
            rw [hj]
            refine RetQ.gives (ac_close b s hi) ?_
            exact RetG_1 (.inl rfl) rfl (ResV.agg rfl rfl) GivesTo.g (⟨rfl, rfl⟩)
          · refine TL_grun rfl rfl ?_
            refine TL_y rfl rfl (Y_move rfl) ?_
            refine TL_grun rfl rfl ?_
            refine TL_y rfl rfl (Y_not_f rfl) ?_
            refine TL_y rfl rfl (Y_pick_f rfl rfl) ?_
            refine TL_y rfl rfl (Y_assign rfl) ?_
            refine TL_nil ?_
            refine thenS_normal ?_
            refine T_seq ?_
            refine T_region ?_
            refine TL_y rfl rfl (Y_move rfl) ?_
            refine TL_y rfl rfl (Y_not_t rfl) ?_
            refine TL_nil ?_
            refine T_cond_false rfl ?_
            refine T_skip ?_
            refine thenS_normal ?_
            refine T_region ?_
            refine TL_y rfl rfl (Y_move rfl) ?_
            refine TL_y rfl rfl (Y_bytes_strN rfl sln) ?_
            refine TL_y rfl rfl (Y_build rfl rfl) ?_
            refine TL_store rfl rfl rfl rfl rfl rfl ?_
            refine TL_nil ?_
            refine T_ret ?_
            have hch : chgA s m := .inr ⟨h3, by rw [hg]; simp⟩
            have hj : judgeV s m = .agg #[.string (strOfNums (outB (wMsg m ([], false)))), .bool true, .bool false] := by unfold judgeV recA; rw [if_pos ⟨hm, hn, hch⟩, decide_eq_true hm, decide_eq_false (fun h => hn h.2)]
            rw [hj]
            refine RetQ.gives (ac_close b s hi) ?_
            exact RetG_1 (.inl rfl) rfl (ResV.agg rfl rfl) GivesTo.g (⟨rfl, rfl⟩)
  · refine RD_leaf _ [0, 1, 3, 7, 0, 16, 1087, 1151, 1279, 1279, 0, 1535, 4095] [] [(0, true), (1, true), (2, true), (3, true), (4, true), (5, true), (10, false), (6, false), (7, true), (8, true), (9, true), (11, false), (12, true)] (by decide +kernel) (Gives.refl _) ?_
    refine TF_y rfl rfl (Y_move rfl) ?_
    refine TF_y rfl rfl (Y_nil_check rfl) ?_
    refine TF_y rfl rfl (Y_field_addr rfl) ?_
    refine TF_y rfl rfl (Y_load rfl rfl) ?_
    refine TF_y rfl rfl (Y_field_addr rfl) ?_
    refine TF_y rfl rfl (Y_load rfl rfl) ?_
    refine TF_anchor rfl ?_
    refine TL_alloc rfl rfl ?_
    intro b7
    refine TF_end GivesTo.g ?_
    refine TF_anchor rfl ?_
    refine TL_lookup_okx (R := votedR) (k := m.slot) rfl rfl rfl hx.slot (fun hn => ?_) (fun u p hu hou => absurd hu (by rw [hg]; simp))
    refine TF_end GivesTo.g ?_
    refine TF_y rfl rfl (Y_move rfl) ?_
    refine TF_y rfl rfl (Y_extract rfl rfl) ?_
    refine TF_y rfl rfl (Y_extract rfl rfl) ?_
    refine TF_name 55 (v' := .bool false) rfl (rfl) ?_
    refine TF_anchor rfl ?_
    refine TL_store rfl rfl rfl rfl rfl rfl ?_
    refine TF_end GivesTo.g ?_
    refine TF_y rfl rfl (Y_assign rfl) ?_
    refine TF_nil ?_
    refine thenS_normal ?_
    refine T_region ?_
    refine TL_y rfl rfl (Y_field_addr rfl) ?_
    refine TL_y rfl rfl (Y_load rfl rfl) ?_
    refine TL_y rfl rfl (Y_eq rfl rfl) ?_
    refine TL_name 58 (v' := .bool true) rfl (congrArg Value.bool (decide_eq_true h3)) ?_
    refine TL_y rfl rfl (Y_assign rfl) ?_
    refine TL_nil ?_
    refine T_seq ?_
    refine T_region_draw _ [0, 1, 0, 4, 12, 28, 63, 127, 255, 511, 1023, 2047, 4095, 8191, 16383, 32767, 65535, 131071, 262143, 524287, 1048575, 2097151, 4194303] [] [(0, true), (1, true), (2, true), (3, true), (4, true), (5, true), (6, false), (7, true), (8, true), (9, true), (10, true), (11, true), (12, true), (13, true), (14, true), (15, true), (16, true), (17, true), (18, true), (19, true), (20, true), (21, true), (22, true)] (by kernel_rfl) (by decide +kernel) (Gives.refl _) ?_
    refine TF_y rfl rfl (Y_field_addr rfl) ?_
    refine TF_y rfl rfl (Y_load_agg rfl rfl) ?_
    refine TF_y rfl rfl (Y_move rfl) ?_
    refine TF_y rfl rfl (Y_nil_check rfl) ?_
    refine TF_y rfl rfl (Y_field_addr rfl) ?_
    refine TF_y rfl rfl (Y_load_agg rfl rfl) ?_
    refine TF_anchor rfl ?_
    refine TL_call rfl rfl (compare_spec m.bal s.prom _) ?_
    rintro _ _ ⟨rfl, rfl⟩
    refine TF_end GivesTo.g ?_
    refine TF_y rfl rfl (Y_lt rfl rfl) ?_
    refine TF_y rfl rfl (Y_move rfl) ?_
    refine TF_splitd 67 rfl (fun h67 => ?_) (fun h67 => ?_)
    · refine TF_gskip rfl rfl rfl rfl rfl ?_
      refine TF_gskip rfl rfl rfl rfl rfl ?_
      refine TF_gskip_u rfl rfl rfl rfl ?_
      refine TF_gskip_u rfl rfl rfl rfl ?_
      refine TF_gskip rfl rfl rfl rfl rfl ?_
      refine TF_gskip rfl rfl rfl rfl rfl ?_
      refine TF_gskip_u rfl rfl rfl rfl ?_
      refine TF_gskip_u rfl rfl rfl rfl ?_
      refine TF_gskip_u rfl rfl rfl rfl ?_
      refine TF_gskip_u rfl rfl rfl rfl ?_
      refine TF_gskip_u rfl rfl rfl rfl ?_
      refine TF_gskip_u rfl rfl rfl rfl ?_
      refine TF_gskip rfl rfl rfl rfl rfl ?_
      refine TF_y rfl rfl (Y_pick_t rfl rfl) ?_
      refine TF_nil ?_
      refine T_cond_true rfl ?_
      refine T_region ?_
      refine TL_y rfl rfl (Y_build rfl rfl) ?_
      refine TL_store rfl rfl rfl rfl rfl rfl ?_
      refine TL_nil ?_
      refine T_ret ?_
      refine thenS_ret ?_
      have hn : nackA s m := by unfold nackA; rw [hg]; first | (left; omega) | (right; exact ⟨h3, rfl, by omega⟩)
      have hj : judgeV s m = .agg #[.string ⟨#[]⟩, .bool true, .bool true] := by unfold judgeV recA; rw [if_neg (fun h => h.2.1 hn), decide_eq_true hm, decide_eq_true (And.intro hm hn)]
      rw [hj]
      refine RetQ.gives (ac_close b s hi) ?_
      exact RetG_1 (.inl rfl) rfl (ResV.agg rfl rfl) GivesTo.g (⟨rfl, rfl⟩)
    · refine TF_gy rfl rfl rfl rfl (Y_move rfl) ?_
      refine TF_gy rfl rfl rfl rfl (Y_move rfl) ?_
      refine TF_gy rfl rfl rfl rfl (Y_move rfl) ?_
      refine TF_gy rfl rfl rfl rfl (Y_not_f rfl) ?_
      refine TF_gy rfl rfl rfl rfl (Y_pick_t rfl rfl) ?_
      refine TF_gy rfl rfl rfl rfl (Y_move rfl) ?_
      refine TF_gy rfl rfl rfl rfl (Y_move rfl) ?_
      refine TF_gy rfl rfl rfl rfl (Y_nil_check rfl) ?_
      refine TF_gy rfl rfl rfl rfl (Y_field_addr rfl) ?_
      refine TF_gy rfl rfl rfl rfl (Y_load rfl rfl) ?_
      refine TF_gy rfl rfl rfl rfl (Y_len_map rfl ) ?_
      refine TF_name 78 (v' := .int .i64 (s.V.length : Int)) rfl (by simp) ?_
      refine TF_gy rfl rfl rfl rfl (Y_ge rfl rfl) ?_
      refine TF_gy rfl rfl rfl rfl (Y_pick_t rfl rfl) ?_
      refine TF_y rfl rfl (Y_pick_f rfl rfl) ?_
      refine TF_nil ?_
      refine T_if rfl (fun h81 => ?_) (fun h81 => ?_)
      · refine T_region ?_
        refine TL_y rfl rfl (Y_build rfl rfl) ?_
        refine TL_store rfl rfl rfl rfl rfl rfl ?_
        refine TL_nil ?_
        refine T_ret ?_
        refine thenS_ret ?_
        have hn : nackA s m := by unfold nackA; rw [hg]; first | (left; omega) | (right; exact ⟨h3, rfl, by omega⟩)
        have hj : judgeV s m = .agg #[.string ⟨#[]⟩, .bool true, .bool true] := by unfold judgeV recA; rw [if_neg (fun h => h.2.1 hn), decide_eq_true hm, decide_eq_true (And.intro hm hn)]
        rw [hj]
        refine RetQ.gives (ac_close b s hi) ?_
        exact RetG_1 (.inl rfl) rfl (ResV.agg rfl rfl) GivesTo.g (⟨rfl, rfl⟩)
      · refine T_skip ?_
        refine thenS_normal ?_
        have hn : ¬ nackA s m := by unfold nackA; rintro (h | ⟨_, _, h⟩) <;> omega
        refine T_region_draw _ [0, 1, 3, 7, 0, 16, 63, 127] [] [(0, true), (1, true), (2, true), (3, true), (4, true), (5, true), (6, true), (7, true)] (by kernel_rfl) (by decide +kernel) (Gives.refl _) ?_
        refine TF_y rfl rfl (Y_move rfl) ?_
        refine TF_y rfl rfl (Y_nil_check rfl) ?_
        refine TF_y rfl rfl (Y_field_addr rfl) ?_
        refine TF_y rfl rfl (Y_load_agg rfl rfl) ?_
        refine TF_y rfl rfl (Y_field_addr rfl) ?_
        refine TF_y rfl rfl (Y_load_agg rfl rfl) ?_
        refine TF_y rfl rfl (Y_ne_bal rfl rfl) ?_
        refine TF_name 89 (v' := .bool (decide (s.prom ≠ m.bal))) rfl (by by_cases h : s.prom = m.bal <;> simp [h]) ?_
        refine TF_y rfl rfl (Y_assign rfl) ?_
        refine TF_nil ?_
        refine T_seq ?_
        refine T_region ?_
        refine TL_y rfl rfl (Y_move rfl) ?_
        refine TL_nil ?_
        refine T_cond_true rfl ?_
        refine T_rd [0, 1, 3, 0, 8, 24, 0, 0, 199, 511] (by kernel_rfl) (by decide +kernel) ?_
        refine RD_pair 6 7 (by decide) ?_ ?_
        · refine RD_leaf _ [0, 1, 3, 0, 8, 24, 0, 64, 199, 511] [] [(0, true), (1, true), (2, true), (3, true), (4, true), (5, true), (6, false), (7, false), (8, false), (9, false)] (by decide +kernel) (Gives.refl _) ?_
          refine TF_y rfl rfl (Y_field_addr rfl) ?_
          refine TF_y rfl rfl (Y_field_addr rfl) ?_
          refine TF_y rfl rfl (Y_load_agg rfl rfl) ?_
          refine TF_y rfl rfl (Y_field_addr rfl) ?_
          refine TF_y rfl rfl (Y_field_addr rfl) ?_
          refine TF_y rfl rfl (Y_load_agg rfl rfl) ?_
          refine TF_anchor rfl ?_
          refine TL_alloc rfl rfl ?_
          intro b11
          refine TF_end GivesTo.g ?_
          refine TF_anchor rfl ?_
          refine TL_alloc rfl rfl ?_
          intro b12
          refine TF_end GivesTo.g ?_
          refine TF_anchor rfl ?_
          refine TL_store rfl rfl rfl rfl rfl rfl ?_
          refine TF_end GivesTo.g ?_
          refine TF_anchor rfl ?_
          refine TL_store rfl rfl rfl rfl rfl rfl ?_
          refine TF_end GivesTo.g ?_
          refine TF_nil ?_
          refine thenS_normal ?_
          refine T_region ?_
          refine TL_y rfl rfl (Y_move rfl) ?_
          refine TL_y rfl rfl (Y_move rfl) ?_
          refine TL_gskip rfl rfl rfl rfl ?_
          refine TL_gskip rfl rfl rfl rfl ?_
          refine TL_gskip rfl rfl rfl rfl ?_
          refine TL_gskip rfl rfl rfl rfl ?_
          refine TL_gskip rfl rfl rfl rfl ?_
          refine TL_y rfl rfl (Y_pick_f rfl rfl) ?_
          refine TL_y rfl rfl (Y_move rfl) ?_
          refine TL_gskip rfl rfl rfl rfl ?_
          refine TL_gskip rfl rfl rfl rfl ?_
          refine TL_gskip rfl rfl rfl rfl ?_
          refine TL_gskip rfl rfl rfl rfl ?_
          refine TL_gskip rfl rfl rfl rfl ?_
          refine TL_gskip rfl rfl rfl rfl ?_
          refine TL_gskip rfl rfl rfl rfl ?_
          refine TL_y rfl rfl (Y_pick_f rfl rfl) ?_
          refine TL_y rfl rfl (Y_move rfl) ?_
          refine TL_gskip rfl rfl rfl rfl ?_
          refine TL_gskip rfl rfl rfl rfl ?_
          refine TL_gskip rfl rfl rfl rfl ?_
          refine TL_gskip rfl rfl rfl rfl ?_
          refine TL_gskip rfl rfl rfl rfl ?_
          refine TL_y rfl rfl (Y_pick_f rfl rfl) ?_
          refine TL_y rfl rfl (Y_move rfl) ?_
          refine TL_gskip rfl rfl rfl rfl ?_
          refine TL_gskip rfl rfl rfl rfl ?_
          refine TL_gskip rfl rfl rfl rfl ?_
          refine TL_gskip rfl rfl rfl rfl ?_
          refine TL_gskip rfl rfl rfl rfl ?_
          refine TL_y rfl rfl (Y_pick_f rfl rfl) ?_
          refine TL_y rfl rfl (Y_move rfl) ?_
          refine TL_gskip rfl rfl rfl rfl ?_
          refine TL_gskip rfl rfl rfl rfl ?_
          refine TL_gskip rfl rfl rfl rfl ?_
          refine TL_gskip rfl rfl rfl rfl ?_
          refine TL_gskip rfl rfl rfl rfl ?_
          refine TL_y rfl rfl (Y_pick_f rfl rfl) ?_
          refine TL_y rfl rfl (Y_move rfl) ?_
          refine TL_gskip rfl rfl rfl rfl ?_
          refine TL_gskip rfl rfl rfl rfl ?_
          refine TL_gskip rfl rfl rfl rfl ?_
          refine TL_gskip rfl rfl rfl rfl ?_
          refine TL_gskip rfl rfl rfl rfl ?_
          refine TL_y rfl rfl (Y_pick_f rfl rfl) ?_
          refine TL_y rfl rfl (Y_assign rfl) ?_
          refine TL_nil ?_
          refine T_region_last ?_
          refine TL_y rfl rfl (Y_move rfl) ?_
          refine TL_y rfl rfl (Y_move rfl) ?_
          refine TL_splitd 143 rfl (fun h143 => ?_) (fun h143 => ?_)
          · refine TL_gskip rfl rfl rfl rfl ?_
            refine TL_gskip rfl rfl rfl rfl ?_
            refine TL_y rfl rfl (Y_pick_t rfl rfl) ?_
            refine TL_y rfl rfl (Y_assign rfl) ?_
            refine TL_nil ?_
            refine thenS_normal ?_
            refine T_seq ?_
            refine T_region ?_
            refine TL_y rfl rfl (Y_move rfl) ?_
            refine TL_y rfl rfl (Y_not_t rfl) ?_
            refine TL_nil ?_
            refine T_cond_false rfl ?_
            refine T_skip ?_
            refine thenS_normal ?_
            refine T_region ?_
            refine TL_y rfl rfl (Y_move rfl) ?_
            refine TL_y rfl rfl (Y_bytes_strN rfl sln) ?_
            refine TL_y rfl rfl (Y_build rfl rfl) ?_
            refine TL_store rfl rfl rfl rfl rfl rfl ?_
            refine TL_nil ?_
            refine T_ret ?_
            have hch : chgA s m := .inr ⟨h3, by rw [hg]; simp⟩
            have hj : judgeV s m = .agg #[.string (strOfNums (outB (wMsg m ([], false)))), .bool true, .bool false] := by unfold judgeV recA; rw [if_pos ⟨hm, hn, hch⟩, decide_eq_true hm, decide_eq_false (fun h => hn h.2)]
            rw [hj]
            refine RetQ.gives (ac_close b s hi) ?_
            exact RetG_1 (.inl rfl) rfl (ResV.agg rfl rfl) GivesTo.g (⟨rfl, rfl⟩)
          · refine TL_grun rfl rfl ?_
            refine TL_y rfl rfl (Y_move rfl) ?_
            refine TL_grun rfl rfl ?_
            refine TL_y rfl rfl (Y_not_f rfl) ?_
            refine TL_y rfl rfl (Y_pick_f rfl rfl) ?_
            refine TL_y rfl rfl (Y_assign rfl) ?_
            refine TL_nil ?_
            refine thenS_normal ?_
            refine T_seq ?_
            refine T_region ?_
            refine TL_y rfl rfl (Y_move rfl) ?_
            refine TL_y rfl rfl (Y_not_t rfl) ?_
            refine TL_nil ?_
            refine T_cond_false rfl ?_
            refine T_skip ?_
            refine thenS_normal ?_
            refine T_region ?_
            refine TL_y rfl rfl (Y_move rfl) ?_
            refine TL_y rfl rfl (Y_bytes_strN rfl sln) ?_
            refine TL_y rfl rfl (Y_build rfl rfl) ?_
            refine TL_store rfl rfl rfl rfl rfl rfl ?_
            refine TL_nil ?_
            refine T_ret ?_
            have hch : chgA s m := .inr ⟨h3, by rw [hg]; simp⟩
            have hj : judgeV s m = .agg #[.string (strOfNums (outB (wMsg m ([], false)))), .bool true, .bool false] := by unfold judgeV recA; rw [if_pos ⟨hm, hn, hch⟩, decide_eq_true hm, decide_eq_false (fun h => hn h.2)]
            rw [hj]
            refine RetQ.gives (ac_close b s hi) ?_
            exact RetG_1 (.inl rfl) rfl (ResV.agg rfl rfl) GivesTo.g (⟨rfl, rfl⟩)
        · refine RD_leaf _ [0, 1, 3, 0, 8, 24, 128, 0, 199, 511] [] [(0, true), (1, true), (2, true), (3, true), (4, true), (5, true), (7, false), (6, false), (8, false), (9, false)] (by decide +kernel) (Gives.refl _) ?_
          refine TF_y rfl rfl (Y_field_addr rfl) ?_
          refine TF_y rfl rfl (Y_field_addr rfl) ?_
          refine TF_y rfl rfl (Y_load_agg rfl rfl) ?_
          refine TF_y rfl rfl (Y_field_addr rfl) ?_
          refine TF_y rfl rfl (Y_field_addr rfl) ?_
          refine TF_y rfl rfl (Y_load_agg rfl rfl) ?_
          refine TF_anchor rfl ?_
          refine TL_alloc rfl rfl ?_
          intro b12
          refine TF_end GivesTo.g ?_
          refine TF_anchor rfl ?_
          refine TL_alloc rfl rfl ?_
          intro b11
          refine TF_end GivesTo.g ?_
          refine TF_anchor rfl ?_
          refine TL_store rfl rfl rfl rfl rfl rfl ?_
          refine TF_end GivesTo.g ?_
          refine TF_anchor rfl ?_
          refine TL_store rfl rfl rfl rfl rfl rfl ?_
          refine TF_end GivesTo.g ?_
          refine TF_nil ?_
          refine thenS_normal ?_
          refine T_region ?_
          refine TL_y rfl rfl (Y_move rfl) ?_
          refine TL_y rfl rfl (Y_move rfl) ?_
          refine TL_gskip rfl rfl rfl rfl ?_
          refine TL_gskip rfl rfl rfl rfl ?_
          refine TL_gskip rfl rfl rfl rfl ?_
          refine TL_gskip rfl rfl rfl rfl ?_
          refine TL_gskip rfl rfl rfl rfl ?_
          refine TL_y rfl rfl (Y_pick_f rfl rfl) ?_
          refine TL_y rfl rfl (Y_move rfl) ?_
          refine TL_gskip rfl rfl rfl rfl ?_
          refine TL_gskip rfl rfl rfl rfl ?_
          refine TL_gskip rfl rfl rfl rfl ?_
          refine TL_gskip rfl rfl rfl rfl ?_
          refine TL_gskip rfl rfl rfl rfl ?_
          refine TL_gskip rfl rfl rfl rfl ?_
          refine TL_gskip rfl rfl rfl rfl ?_
          refine TL_y rfl rfl (Y_pick_f rfl rfl) ?_
          refine TL_y rfl rfl (Y_move rfl) ?_
          refine TL_gskip rfl rfl rfl rfl ?_
          refine TL_gskip rfl rfl rfl rfl ?_
          refine TL_gskip rfl rfl rfl rfl ?_
          refine TL_gskip rfl rfl rfl rfl ?_
          refine TL_gskip rfl rfl rfl rfl ?_
          refine TL_y rfl rfl (Y_pick_f rfl rfl) ?_
          refine TL_y rfl rfl (Y_move rfl) ?_
          refine TL_gskip rfl rfl rfl rfl ?_
          refine TL_gskip rfl rfl rfl rfl ?_
          refine TL_gskip rfl rfl rfl rfl ?_
          refine TL_gskip rfl rfl rfl rfl ?_
          refine TL_gskip rfl rfl rfl rfl ?_
          refine TL_y rfl rfl (Y_pick_f rfl rfl) ?_
          refine TL_y rfl rfl (Y_move rfl) ?_
          refine TL_gskip rfl rfl rfl rfl ?_
          refine TL_gskip rfl rfl rfl rfl ?_
          refine TL_gskip rfl rfl rfl rfl ?_
          refine TL_gskip rfl rfl rfl rfl ?_
          refine TL_gskip rfl rfl rfl rfl ?_
          refine TL_y rfl rfl (Y_pick_f rfl rfl) ?_
          refine TL_y rfl rfl (Y_move rfl) ?_
          refine TL_gskip rfl rfl rfl rfl ?_
          refine TL_gskip rfl rfl rfl rfl ?_
          refine TL_gskip rfl rfl rfl rfl ?_
          refine TL_gskip rfl rfl rfl rfl ?_
          refine TL_gskip rfl rfl rfl rfl ?_
          refine TL_y rfl rfl (Y_pick_f rfl rfl) ?_
          refine TL_y rfl rfl (Y_assign rfl) ?_
          refine TL_nil ?_
          refine T_region_last ?_
          refine TL_y rfl rfl (Y_move rfl) ?_
          refine TL_y rfl rfl (Y_move rfl) ?_
          refine TL_splitd 143 rfl (fun h143 => ?_) (fun h143 => ?_)
          · refine TL_gskip rfl rfl rfl rfl ?_
            refine TL_gskip rfl rfl rfl rfl ?_
            refine TL_y rfl rfl (Y_pick_t rfl rfl) ?_
            refine TL_y rfl rfl (Y_assign rfl) ?_
            refine TL_nil ?_
            refine thenS_normal ?_
            refine T_seq ?_
            refine T_region ?_
            refine TL_y rfl rfl (Y_move rfl) ?_
            refine TL_y rfl rfl (Y_not_t rfl) ?_
            refine TL_nil ?_
            refine T_cond_false rfl ?_
            refine T_skip ?_
            refine thenS_normal ?_
            refine T_region ?_
            refine TL_y rfl rfl (Y_move rfl) ?_
            refine TL_y rfl rfl (Y_bytes_strN rfl sln) ?_
            refine TL_y rfl rfl (Y_build rfl rfl) ?_
            refine TL_store rfl rfl rfl rfl rfl rfl ?_
            refine TL_nil ?_
            refine T_ret ?_
            have hch : chgA s m := .inr ⟨h3, by rw [hg]; simp⟩
            have hj : judgeV s m = .agg #[.string (strOfNums (outB (wMsg m ([], false)))), .bool true, .bool false] := by unfold judgeV recA; rw [if_pos ⟨hm, hn, hch⟩, decide_eq_true hm, decide_eq_false (fun h => hn h.2)]
            rw [hj]
            refine RetQ.gives (ac_close b s hi) ?_
            exact RetG_1 (.inl rfl) rfl (ResV.agg rfl rfl) GivesTo.g (⟨rfl, rfl⟩)
          · refine TL_grun rfl rfl ?_
            refine TL_y rfl rfl (Y_move rfl) ?_
            refine TL_grun rfl rfl ?_
            refine TL_y rfl rfl (Y_not_f rfl) ?_
            refine TL_y rfl rfl (Y_pick_f rfl rfl) ?_
            refine TL_y rfl rfl (Y_assign rfl) ?_
            refine TL_nil ?_
            refine thenS_normal ?_
            refine T_seq ?_
            refine T_region ?_
            refine TL_y rfl rfl (Y_move rfl) ?_
            refine TL_y rfl rfl (Y_not_t rfl) ?_
            refine TL_nil ?_
            refine T_cond_false rfl ?_
            refine T_skip ?_
            refine thenS_normal ?_
            refine T_region ?_
            refine TL_y rfl rfl (Y_move rfl) ?_
            refine TL_y rfl rfl (Y_bytes_strN rfl sln) ?_
            refine TL_y rfl rfl (Y_build rfl rfl) ?_
            refine TL_store rfl rfl rfl rfl rfl rfl ?_
            refine TL_nil ?_
            refine T_ret ?_
            have hch : chgA s m := .inr ⟨h3, by rw [hg]; simp⟩
            have hj : judgeV s m = .agg #[.string (strOfNums (outB (wMsg m ([], false)))), .bool true, .bool false] := by unfold judgeV recA; rw [if_pos ⟨hm, hn, hch⟩, decide_eq_true hm, decide_eq_false (fun h => hn h.2)]
            rw [hj]
            refine RetQ.gives (ac_close b s hi) ?_
            exact RetG_1 (.inl rfl) rfl (ResV.agg rfl rfl) GivesTo.g (⟨rfl, rfl⟩)
end Go.SL
set_option linter.unusedVariables false
set_option linter.unusedSimpArgs false
namespace Go.SL
open Go Go.Proofs
theorem en_eq {a b : EntryD} : a = b ↔ a.noop = b.noop ∧ a.order.token = b.order.token ∧ a.order.cart = b.order.cart ∧ a.order.epoch = b.order.epoch ∧ a.order.cut = b.order.cut := by
  obtain ⟨a1, a2, a3, a4, a5⟩ := a
  obtain ⟨b1, b2, b3, b4, b5⟩ := b
  simp
set_option maxHeartbeats 4000000 in
set_option maxRecDepth 20000 in
theorem acJudge_accS {L : List HP} {b : Nat} {s : AccD} (m : MsgD) (p : MsgP) (hx : MsgOk m) (hk : MsgK L m p) (hc : cMsg m ≤ 140737488355328) (hm : mineA s m) (h3 : m.kind = 3) {u : VotedD} (hg : getM (vmap s.V) m.slot = some u) : Fn Try.prog 62 #[.pointer (some ⟨b, 0, none⟩), .agg (List.toArray (msgC m p))] (ac b s :: L) (fun v L' => v = judgeV s m ∧ L' = ac b s :: L) := by
  refine Fn_enter Try.func62 rfl rfl rfl rfl ?_
  refine T_region ?_
  refine TL_box rfl rfl rfl ?_
  intro b3
  refine TL_alloc rfl rfl ?_
  intro b4
  refine TL_nil ?_
  refine T_region ?_
  refine TL_y rfl rfl (Y_load_agg rfl rfl) ?_
  refine TL_call rfl rfl (msg_spec m p hx hk.tail.tail.tail hc) ?_
  rintro _ _ ⟨A16, c16, rfl, rfl⟩
  refine TL_y rfl rfl (Y_move rfl) ?_
  refine TL_y rfl rfl (Y_extract rfl rfl) ?_
  refine TL_y rfl rfl (Y_extract rfl rfl) ?_
  refine TL_y rfl rfl (Y_assign rfl) ?_
  refine TL_y rfl rfl (Y_assign rfl) ?_
  refine TL_nil ?_
  refine T_seq ?_
  refine T_region_draw _ [0, 1, 3, 7, 15, 31, 63, 127, 255, 511, 255, 1279, 3327, 7423, 16383, 32767, 65535, 131071, 262143, 524287, 1048575, 2097151, 4194303, 8388607, 16777215, 33554431] [] [(0, true), (1, false), (2, true), (3, true), (4, true), (5, true), (6, true), (7, true), (8, true), (9, true), (10, true), (11, true), (12, true), (13, true), (14, true), (15, true), (16, true), (17, true), (18, true), (19, true), (20, true), (21, true), (22, true), (23, true), (24, true), (25, true)] (by kernel_rfl) (by decide +kernel) (Gives.refl _) ?_
  refine TF_y rfl rfl (Y_move rfl) ?_
  refine TF_anchor rfl ?_
  refine TL_pullk b ?_
  refine TL_call rfl rfl (acMade_spec) ?_
  rintro _ _ ⟨rfl, rfl⟩
  refine TL_name 20 (v' := .bool true) rfl (rfl) ?_
  refine TF_end GivesTo.g ?_
  refine TF_y rfl rfl (Y_not_t rfl) ?_
  refine TF_y rfl rfl (Y_move rfl) ?_
  refine TF_gy rfl rfl rfl rfl (Y_move rfl) ?_
  refine TF_gy rfl rfl rfl rfl (Y_ne rfl rfl) ?_
  refine TF_name 24 (v' := .bool false) rfl (congrArg Value.bool (decide_eq_false (by have := hm.1; omega))) ?_
  refine TF_y rfl rfl (Y_pick_f rfl rfl) ?_
  refine TF_y rfl rfl (Y_move rfl) ?_
  refine TF_gy rfl rfl rfl rfl (Y_field_addr rfl) ?_
  refine TF_gy rfl rfl rfl rfl (Y_load rfl rfl) ?_
  refine TF_gy rfl rfl rfl rfl (Y_move rfl) ?_
  refine TF_gy rfl rfl rfl rfl (Y_nil_check rfl) ?_
  refine TF_gy rfl rfl rfl rfl (Y_field_addr rfl) ?_
  refine TF_gy rfl rfl rfl rfl (Y_ac (b := b) fun bt => Y_load rfl rfl) ?_
  refine TF_gy rfl rfl rfl rfl (Y_ne rfl rfl) ?_
  refine TF_name 33 (v' := .bool false) rfl (congrArg Value.bool (decide_eq_false (by have := hm.2.1; omega))) ?_
  refine TF_y rfl rfl (Y_pick_f rfl rfl) ?_
  refine TF_y rfl rfl (Y_move rfl) ?_
  refine TF_gy rfl rfl rfl rfl (Y_field_addr rfl) ?_
  refine TF_gy rfl rfl rfl rfl (Y_load rfl rfl) ?_
  refine TF_gy rfl rfl rfl rfl (Y_ne rfl rfl) ?_
  refine TF_name 38 (v' := .bool true) rfl (congrArg Value.bool (decide_eq_true (by omega))) ?_
  refine TF_gy rfl rfl rfl rfl (Y_move rfl) ?_
  refine TF_gy rfl rfl rfl rfl (Y_field_addr rfl) ?_
  refine TF_gy rfl rfl rfl rfl (Y_load rfl rfl) ?_
  refine TF_gy rfl rfl rfl rfl (Y_ne rfl rfl) ?_
  refine TF_name 42 (v' := .bool false) rfl (congrArg Value.bool (decide_eq_false (by omega))) ?_
  refine TF_gy rfl rfl rfl rfl (Y_pick_t rfl rfl) ?_
  refine TF_y rfl rfl (Y_pick_f rfl rfl) ?_
  refine TF_nil ?_
  refine T_cond_false rfl ?_
  refine T_skip ?_
  refine thenS_normal ?_
  refine T_pullk b ?_
  refine T_ac fun bt hi => ?_
  refine T_rd [0, 1, 3, 7, 0, 16, 63, 127, 255, 255, 0, 1535, 4095] (by kernel_rfl) (by decide +kernel) ?_
  refine RD_pair 6 10 (by decide) ?_ ?_
  · refine RD_leaf _ [0, 1, 3, 7, 0, 16, 63, 127, 255, 255, 127, 1535, 4095] [] [(0, true), (1, true), (2, true), (3, true), (4, true), (5, true), (6, false), (7, true), (8, true), (9, true), (10, false), (11, false), (12, true)] (by decide +kernel) (Gives.refl _) ?_
    refine TF_y rfl rfl (Y_move rfl) ?_
    refine TF_y rfl rfl (Y_nil_check rfl) ?_
    refine TF_y rfl rfl (Y_field_addr rfl) ?_
    refine TF_y rfl rfl (Y_load rfl rfl) ?_
    refine TF_y rfl rfl (Y_field_addr rfl) ?_
    refine TF_y rfl rfl (Y_load rfl rfl) ?_
    refine TF_anchor rfl ?_
    refine TL_lookup_okx (R := votedR) (k := m.slot) rfl rfl rfl hx.slot (fun hn => absurd hn (by rw [hg]; simp)) (fun u2 p2 hu hou => ?_)
    rw [hg] at hu
    obtain rfl := Option.some.inj hu
    simp only [List.cons_append, List.nil_append]
    refine TF_end GivesTo.g ?_
    refine TF_y rfl rfl (Y_move rfl) ?_
    refine TF_y rfl rfl (Y_extract rfl rfl) ?_
    refine TF_y rfl rfl (Y_extract rfl rfl) ?_
    refine TF_name 55 (v' := .bool true) rfl (rfl) ?_
    refine TF_anchor rfl ?_
    refine TL_alloc rfl rfl ?_
    intro b7
    refine TF_end GivesTo.g ?_
    refine TF_anchor rfl ?_
    refine TL_store rfl rfl rfl rfl rfl rfl ?_
    refine TF_end GivesTo.g ?_
    refine TF_y rfl rfl (Y_assign rfl) ?_
    refine TF_nil ?_
    refine thenS_normal ?_
    refine T_region ?_
    refine TL_y rfl rfl (Y_field_addr rfl) ?_
    refine TL_y rfl rfl (Y_load rfl rfl) ?_
    refine TL_y rfl rfl (Y_eq rfl rfl) ?_
    refine TL_name 58 (v' := .bool true) rfl (congrArg Value.bool (decide_eq_true h3)) ?_
    refine TL_y rfl rfl (Y_assign rfl) ?_
    refine TL_nil ?_
    refine T_seq ?_
    refine T_region_draw _ [0, 1, 0, 4, 12, 28, 63, 127, 255, 511, 1023, 2047, 4095, 8191, 16383, 32767, 65535, 131071, 262143, 524287, 1048575, 2097151, 4194303] [] [(0, true), (1, true), (2, true), (3, true), (4, true), (5, true), (6, false), (7, true), (8, true), (9, true), (10, true), (11, true), (12, true), (13, true), (14, true), (15, true), (16, true), (17, true), (18, true), (19, true), (20, true), (21, true), (22, true)] (by kernel_rfl) (by decide +kernel) (Gives.refl _) ?_
    refine TF_y rfl rfl (Y_field_addr rfl) ?_
    refine TF_y rfl rfl (Y_load_agg rfl rfl) ?_
    refine TF_y rfl rfl (Y_move rfl) ?_
    refine TF_y rfl rfl (Y_nil_check rfl) ?_
    refine TF_y rfl rfl (Y_field_addr rfl) ?_
    refine TF_y rfl rfl (Y_load_agg rfl rfl) ?_
    refine TF_anchor rfl ?_
    refine TL_call rfl rfl (compare_spec m.bal s.prom _) ?_
    rintro _ _ ⟨rfl, rfl⟩
    refine TF_end GivesTo.g ?_
    refine TF_y rfl rfl (Y_lt rfl rfl) ?_
    refine TF_y rfl rfl (Y_move rfl) ?_
    refine TF_splitd 67 rfl (fun h67 => ?_) (fun h67 => ?_)
    · refine TF_gskip rfl rfl rfl rfl rfl ?_
      refine TF_gskip rfl rfl rfl rfl rfl ?_
      refine TF_gskip_u rfl rfl rfl rfl ?_
      refine TF_gskip_u rfl rfl rfl rfl ?_
      refine TF_gskip rfl rfl rfl rfl rfl ?_
      refine TF_gskip rfl rfl rfl rfl rfl ?_
      refine TF_gskip_u rfl rfl rfl rfl ?_
      refine TF_gskip_u rfl rfl rfl rfl ?_
      refine TF_gskip_u rfl rfl rfl rfl ?_
      refine TF_gskip_u rfl rfl rfl rfl ?_
      refine TF_gskip_u rfl rfl rfl rfl ?_
      refine TF_gskip_u rfl rfl rfl rfl ?_
      refine TF_gskip rfl rfl rfl rfl rfl ?_
      refine TF_y rfl rfl (Y_pick_t rfl rfl) ?_
      refine TF_nil ?_
      refine T_cond_true rfl ?_
      refine T_region ?_
      refine TL_y rfl rfl (Y_build rfl rfl) ?_
      refine TL_store rfl rfl rfl rfl rfl rfl ?_
      refine TL_nil ?_
      refine T_ret ?_
      refine thenS_ret ?_
      have hn : nackA s m := .inl (by omega)
      have hj : judgeV s m = .agg #[.string ⟨#[]⟩, .bool true, .bool true] := by unfold judgeV recA; rw [if_neg (fun h => h.2.1 hn), decide_eq_true hm, decide_eq_true (And.intro hm hn)]
      rw [hj]
      refine RetQ.gives (ac_close b s hi) ?_
      exact RetG_1 (.inl rfl) rfl (ResV.agg rfl rfl) GivesTo.g (⟨rfl, rfl⟩)
    · refine TF_gy rfl rfl rfl rfl (Y_move rfl) ?_
      refine TF_gy rfl rfl rfl rfl (Y_move rfl) ?_
      refine TF_gy rfl rfl rfl rfl (Y_move rfl) ?_
      refine TF_gy rfl rfl rfl rfl (Y_not_t rfl) ?_
      refine TF_gy rfl rfl rfl rfl (Y_pick_t rfl rfl) ?_
      refine TF_gy rfl rfl rfl rfl (Y_move rfl) ?_
      refine TF_gskip rfl rfl rfl rfl rfl ?_
      refine TF_gskip rfl rfl rfl rfl rfl ?_
      refine TF_gskip rfl rfl rfl rfl rfl ?_
      refine TF_gskip rfl rfl rfl rfl rfl ?_
      refine TF_gskip rfl rfl rfl rfl rfl ?_
      refine TF_gskip rfl rfl rfl rfl rfl ?_
      refine TF_gy rfl rfl rfl rfl (Y_pick_f rfl rfl) ?_
      refine TF_y rfl rfl (Y_pick_f rfl rfl) ?_
      refine TF_nil ?_
      refine T_cond_false rfl ?_
      refine T_skip ?_
      refine thenS_normal ?_
      have hn : ¬ nackA s m := by unfold nackA; rw [hg]; rintro (h | ⟨_, h, _⟩); omega; cases h
      have hkey : u = newV m ↔ u.bal = m.bal ∧ u.en = m.en := by have hus := (vmap_get hg).2; obtain ⟨u1, u2, u3⟩ := u; dsimp only at hus; subst hus; simp [newV]
      refine T_region_draw _ [0, 1, 3, 7, 0, 16, 63, 127] [] [(0, true), (1, true), (2, true), (3, true), (4, true), (5, true), (6, true), (7, true)] (by kernel_rfl) (by decide +kernel) (Gives.refl _) ?_
      refine TF_y rfl rfl (Y_move rfl) ?_
      refine TF_y rfl rfl (Y_nil_check rfl) ?_
      refine TF_y rfl rfl (Y_field_addr rfl) ?_
      refine TF_y rfl rfl (Y_load_agg rfl rfl) ?_
      refine TF_y rfl rfl (Y_field_addr rfl) ?_
      refine TF_y rfl rfl (Y_load_agg rfl rfl) ?_
      refine TF_y rfl rfl (Y_ne_bal rfl rfl) ?_
      refine TF_name 89 (v' := .bool (decide (s.prom ≠ m.bal))) rfl (by by_cases h : s.prom = m.bal <;> simp [h]) ?_
      refine TF_y rfl rfl (Y_assign rfl) ?_
      refine TF_nil ?_
      refine T_seq ?_
      refine T_region ?_
      refine TL_y rfl rfl (Y_move rfl) ?_
      refine TL_nil ?_
      refine T_cond_true rfl ?_
      refine T_rd [0, 1, 3, 0, 8, 24, 0, 0, 199, 511] (by kernel_rfl) (by decide +kernel) ?_
      refine RD_pair 6 7 (by decide) ?_ ?_
      · refine RD_leaf _ [0, 1, 3, 0, 8, 24, 0, 64, 199, 511] [] [(0, true), (1, true), (2, true), (3, true), (4, true), (5, true), (6, false), (7, false), (8, false), (9, false)] (by decide +kernel) (Gives.refl _) ?_
        refine TF_y rfl rfl (Y_field_addr rfl) ?_
        refine TF_y rfl rfl (Y_field_addr rfl) ?_
        refine TF_y rfl rfl (Y_load_agg rfl rfl) ?_
        refine TF_y rfl rfl (Y_field_addr rfl) ?_
        refine TF_y rfl rfl (Y_field_addr rfl) ?_
        refine TF_y rfl rfl (Y_load_agg rfl rfl) ?_
        refine TF_anchor rfl ?_
        refine TL_alloc rfl rfl ?_
        intro b11
        refine TF_end GivesTo.g ?_
        refine TF_anchor rfl ?_
        refine TL_alloc rfl rfl ?_
        intro b12
        refine TF_end GivesTo.g ?_
        refine TF_anchor rfl ?_
        refine TL_store rfl rfl rfl rfl rfl rfl ?_
        refine TF_end GivesTo.g ?_
        refine TF_anchor rfl ?_
        refine TL_store rfl rfl rfl rfl rfl rfl ?_
        refine TF_end GivesTo.g ?_
        refine TF_nil ?_
        refine thenS_normal ?_
        refine T_region ?_
        refine TL_both 45 141 (u.bal = m.bal ∧ u.en = m.en) ?_ ?_
        · refine TL_y rfl rfl (Y_move rfl) ?_
          refine TL_y rfl rfl (Y_move rfl) ?_
          refine TL_grun rfl rfl ?_
          refine TL_y rfl rfl (Y_field_addr rfl) ?_
          refine TL_grun rfl rfl ?_
          refine TL_y rfl rfl (Y_load_agg rfl rfl) ?_
          refine TL_grun rfl rfl ?_
          refine TL_y rfl rfl (Y_field_addr rfl) ?_
          refine TL_grun rfl rfl ?_
          refine TL_y rfl rfl (Y_load_agg rfl rfl) ?_
          refine TL_grun rfl rfl ?_
          refine TL_y rfl rfl (Y_eq_bal rfl rfl) ?_
          refine TL_y rfl rfl (Y_pick_t rfl rfl) ?_
          refine TL_y rfl rfl (Y_move rfl) ?_
          refine TL_splitd 105 rfl (fun h105 => ?_) (fun h105 => ?_)
          · refine TL_grun rfl rfl ?_
            refine TL_y rfl rfl (Y_field_addr rfl) ?_
            refine TL_grun rfl rfl ?_
            refine TL_y rfl rfl (Y_field_addr rfl) ?_
            refine TL_grun rfl rfl ?_
            refine TL_y rfl rfl (Y_load rfl rfl) ?_
            refine TL_grun rfl rfl ?_
            refine TL_y rfl rfl (Y_field_addr rfl) ?_
            refine TL_grun rfl rfl ?_
            refine TL_y rfl rfl (Y_field_addr rfl) ?_
            refine TL_grun rfl rfl ?_
            refine TL_y rfl rfl (Y_load rfl rfl) ?_
            refine TL_grun rfl rfl ?_
            refine TL_y rfl rfl (Y_equal rfl rfl (EqIs.bool)) ?_
            refine TL_name 112 (v' := .bool (decide (u.en.noop = m.en.noop))) rfl (by cases u.en.noop <;> cases m.en.noop <;> rfl) ?_
            refine TL_y rfl rfl (Y_pick_t rfl rfl) ?_
            refine TL_y rfl rfl (Y_move rfl) ?_
            refine TL_splitd 114 rfl (fun h114 => ?_) (fun h114 => ?_)
            · refine TL_grun rfl rfl ?_
              refine TL_y rfl rfl (Y_field_addr rfl) ?_
              refine TL_grun rfl rfl ?_
              refine TL_y rfl rfl (Y_load rfl rfl) ?_
              refine TL_grun rfl rfl ?_
              refine TL_y rfl rfl (Y_field_addr rfl) ?_
              refine TL_grun rfl rfl ?_
              refine TL_y rfl rfl (Y_load rfl rfl) ?_
              refine TL_grun rfl rfl ?_
              refine TL_y rfl rfl (Y_str_eq rfl rfl) ?_
              refine TL_y rfl rfl (Y_pick_t rfl rfl) ?_
              refine TL_y rfl rfl (Y_move rfl) ?_
              refine TL_splitd 121 rfl (fun h121 => ?_) (fun h121 => ?_)
              · refine TL_grun rfl rfl ?_
                refine TL_y rfl rfl (Y_field_addr rfl) ?_
                refine TL_grun rfl rfl ?_
                refine TL_y rfl rfl (Y_load rfl rfl) ?_
                refine TL_grun rfl rfl ?_
                refine TL_y rfl rfl (Y_field_addr rfl) ?_
                refine TL_grun rfl rfl ?_
                refine TL_y rfl rfl (Y_load rfl rfl) ?_
                refine TL_grun rfl rfl ?_
                refine TL_y rfl rfl (Y_str_eq rfl rfl) ?_
                refine TL_y rfl rfl (Y_pick_t rfl rfl) ?_
                refine TL_y rfl rfl (Y_move rfl) ?_
                refine TL_splitd 128 rfl (fun h128 => ?_) (fun h128 => ?_)
                · refine TL_grun rfl rfl ?_
                  refine TL_y rfl rfl (Y_field_addr rfl) ?_
                  refine TL_grun rfl rfl ?_
                  refine TL_y rfl rfl (Y_load rfl rfl) ?_
                  refine TL_grun rfl rfl ?_
                  refine TL_y rfl rfl (Y_field_addr rfl) ?_
                  refine TL_grun rfl rfl ?_
                  refine TL_y rfl rfl (Y_load rfl rfl) ?_
                  refine TL_grun rfl rfl ?_
                  refine TL_y rfl rfl (Y_eq rfl rfl) ?_
                  refine TL_y rfl rfl (Y_pick_t rfl rfl) ?_
                  refine TL_y rfl rfl (Y_move rfl) ?_
                  refine TL_splitd 135 rfl (fun h135 => ?_) (fun h135 => ?_)
                  · refine TL_grun rfl rfl ?_
                    refine TL_y rfl rfl (Y_field_addr rfl) ?_
                    refine TL_grun rfl rfl ?_
                    refine TL_y rfl rfl (Y_load rfl rfl) ?_
                    refine TL_grun rfl rfl ?_
                    refine TL_y rfl rfl (Y_field_addr rfl) ?_
                    refine TL_grun rfl rfl ?_
                    refine TL_y rfl rfl (Y_load rfl rfl) ?_
                    refine TL_grun rfl rfl ?_
                    refine TL_call rfl rfl (equalInts_spec sln (SlN.of_gives GivesTo.g hk.cut.n)) ?_
                    rintro _ _ ⟨rfl, rfl⟩
                    refine TL_y rfl rfl (Y_pick_t rfl rfl) ?_
                    refine TL_chain_end rfl ?_ (by repeat (first | exact sub_refl | refine sub_ext rfl ?_)) GivesTo.g
                    exact congrArg Value.bool (decide_eq_decide.2 (by rw [en_eq]; simp_all))
                  · refine TL_gskip rfl rfl rfl rfl ?_
                    refine TL_gskip rfl rfl rfl rfl ?_
                    refine TL_gskip rfl rfl rfl rfl ?_
                    refine TL_gskip rfl rfl rfl rfl ?_
                    refine TL_gskip rfl rfl rfl rfl ?_
                    refine TL_y rfl rfl (Y_pick_f rfl rfl) ?_
                    refine TL_chain_end rfl ?_ (by repeat (first | exact sub_refl | refine sub_ext rfl ?_)) GivesTo.g
                    exact congrArg Value.bool (decide_eq_false (by rw [en_eq]; simp_all)).symm
                · refine TL_gskip rfl rfl rfl rfl ?_
                  refine TL_gskip rfl rfl rfl rfl ?_
                  refine TL_gskip rfl rfl rfl rfl ?_
                  refine TL_gskip rfl rfl rfl rfl ?_
                  refine TL_gskip rfl rfl rfl rfl ?_
                  refine TL_y rfl rfl (Y_pick_f rfl rfl) ?_
                  refine TL_y rfl rfl (Y_move rfl) ?_
                  refine TL_gskip rfl rfl rfl rfl ?_
                  refine TL_gskip rfl rfl rfl rfl ?_
                  refine TL_gskip rfl rfl rfl rfl ?_
                  refine TL_gskip rfl rfl rfl rfl ?_
                  refine TL_gskip rfl rfl rfl rfl ?_
                  refine TL_y rfl rfl (Y_pick_f rfl rfl) ?_
                  refine TL_chain_end rfl ?_ (by repeat (first | exact sub_refl | refine sub_ext rfl ?_)) GivesTo.g
                  exact congrArg Value.bool (decide_eq_false (by rw [en_eq]; simp_all)).symm
              · refine TL_gskip rfl rfl rfl rfl ?_
                refine TL_gskip rfl rfl rfl rfl ?_
                refine TL_gskip rfl rfl rfl rfl ?_
                refine TL_gskip rfl rfl rfl rfl ?_
                refine TL_gskip rfl rfl rfl rfl ?_
                refine TL_y rfl rfl (Y_pick_f rfl rfl) ?_
                refine TL_y rfl rfl (Y_move rfl) ?_
                refine TL_gskip rfl rfl rfl rfl ?_
                refine TL_gskip rfl rfl rfl rfl ?_
                refine TL_gskip rfl rfl rfl rfl ?_
                refine TL_gskip rfl rfl rfl rfl ?_
                refine TL_gskip rfl rfl rfl rfl ?_
                refine TL_y rfl rfl (Y_pick_f rfl rfl) ?_
                refine TL_y rfl rfl (Y_move rfl) ?_
                refine TL_gskip rfl rfl rfl rfl ?_
                refine TL_gskip rfl rfl rfl rfl ?_
                refine TL_gskip rfl rfl rfl rfl ?_
                refine TL_gskip rfl rfl rfl rfl ?_
                refine TL_gskip rfl rfl rfl rfl ?_
                refine TL_y rfl rfl (Y_pick_f rfl rfl) ?_
                refine TL_chain_end rfl ?_ (by repeat (first | exact sub_refl | refine sub_ext rfl ?_)) GivesTo.g
                exact congrArg Value.bool (decide_eq_false (by rw [en_eq]; simp_all)).symm
            · refine TL_gskip rfl rfl rfl rfl ?_
              refine TL_gskip rfl rfl rfl rfl ?_
              refine TL_gskip rfl rfl rfl rfl ?_
              refine TL_gskip rfl rfl rfl rfl ?_
              refine TL_gskip rfl rfl rfl rfl ?_
              refine TL_y rfl rfl (Y_pick_f rfl rfl) ?_
              refine TL_y rfl rfl (Y_move rfl) ?_
              refine TL_gskip rfl rfl rfl rfl ?_
              refine TL_gskip rfl rfl rfl rfl ?_
              refine TL_gskip rfl rfl rfl rfl ?_
              refine TL_gskip rfl rfl rfl rfl ?_
              refine TL_gskip rfl rfl rfl rfl ?_
              refine TL_y rfl rfl (Y_pick_f rfl rfl) ?_
              refine TL_y rfl rfl (Y_move rfl) ?_
              refine TL_gskip rfl rfl rfl rfl ?_
              refine TL_gskip rfl rfl rfl rfl ?_
              refine TL_gskip rfl rfl rfl rfl ?_
              refine TL_gskip rfl rfl rfl rfl ?_
              refine TL_gskip rfl rfl rfl rfl ?_
              refine TL_y rfl rfl (Y_pick_f rfl rfl) ?_
              refine TL_y rfl rfl (Y_move rfl) ?_
              refine TL_gskip rfl rfl rfl rfl ?_
              refine TL_gskip rfl rfl rfl rfl ?_
              refine TL_gskip rfl rfl rfl rfl ?_
              refine TL_gskip rfl rfl rfl rfl ?_
              refine TL_gskip rfl rfl rfl rfl ?_
              refine TL_y rfl rfl (Y_pick_f rfl rfl) ?_
              refine TL_chain_end rfl ?_ (by repeat (first | exact sub_refl | refine sub_ext rfl ?_)) GivesTo.g
              exact congrArg Value.bool (decide_eq_false (by rw [en_eq]; simp_all)).symm
          · refine TL_gskip rfl rfl rfl rfl ?_
            refine TL_gskip rfl rfl rfl rfl ?_
            refine TL_gskip rfl rfl rfl rfl ?_
            refine TL_gskip rfl rfl rfl rfl ?_
            refine TL_gskip rfl rfl rfl rfl ?_
            refine TL_gskip rfl rfl rfl rfl ?_
            refine TL_gskip rfl rfl rfl rfl ?_
            refine TL_y rfl rfl (Y_pick_f rfl rfl) ?_
            refine TL_y rfl rfl (Y_move rfl) ?_
            refine TL_gskip rfl rfl rfl rfl ?_
            refine TL_gskip rfl rfl rfl rfl ?_
            refine TL_gskip rfl rfl rfl rfl ?_
            refine TL_gskip rfl rfl rfl rfl ?_
            refine TL_gskip rfl rfl rfl rfl ?_
            refine TL_y rfl rfl (Y_pick_f rfl rfl) ?_
            refine TL_y rfl rfl (Y_move rfl) ?_
            refine TL_gskip rfl rfl rfl rfl ?_
            refine TL_gskip rfl rfl rfl rfl ?_
            refine TL_gskip rfl rfl rfl rfl ?_
            refine TL_gskip rfl rfl rfl rfl ?_
            refine TL_gskip rfl rfl rfl rfl ?_
            refine TL_y rfl rfl (Y_pick_f rfl rfl) ?_
            refine TL_y rfl rfl (Y_move rfl) ?_
            refine TL_gskip rfl rfl rfl rfl ?_
            refine TL_gskip rfl rfl rfl rfl ?_
            refine TL_gskip rfl rfl rfl rfl ?_
            refine TL_gskip rfl rfl rfl rfl ?_
            refine TL_gskip rfl rfl rfl rfl ?_
            refine TL_y rfl rfl (Y_pick_f rfl rfl) ?_
            refine TL_y rfl rfl (Y_move rfl) ?_
            refine TL_gskip rfl rfl rfl rfl ?_
            refine TL_gskip rfl rfl rfl rfl ?_
            refine TL_gskip rfl rfl rfl rfl ?_
            refine TL_gskip rfl rfl rfl rfl ?_
            refine TL_gskip rfl rfl rfl rfl ?_
            refine TL_y rfl rfl (Y_pick_f rfl rfl) ?_
            refine TL_chain_end rfl ?_ (by repeat (first | exact sub_refl | refine sub_ext rfl ?_)) GivesTo.g
            exact congrArg Value.bool (decide_eq_false (by rw [en_eq]; simp_all)).symm
        refine TL_y rfl rfl (Y_assign rfl) ?_
        refine TL_nil ?_
        refine T_region_last ?_
        refine TL_y rfl rfl (Y_move rfl) ?_
        refine TL_y rfl rfl (Y_move rfl) ?_
        refine TL_splitd 143 rfl (fun h143 => ?_) (fun h143 => ?_)
        · refine TL_gskip rfl rfl rfl rfl ?_
          refine TL_gskip rfl rfl rfl rfl ?_
          refine TL_y rfl rfl (Y_pick_t rfl rfl) ?_
          refine TL_y rfl rfl (Y_assign rfl) ?_
          refine TL_nil ?_
          refine thenS_normal ?_
          refine T_seq ?_
          refine T_region ?_
          refine TL_y rfl rfl (Y_move rfl) ?_
          refine TL_y rfl rfl (Y_not_t rfl) ?_
          refine TL_nil ?_
          refine T_cond_false rfl ?_
          refine T_skip ?_
          refine thenS_normal ?_
          refine T_region ?_
          refine TL_y rfl rfl (Y_move rfl) ?_
          refine TL_y rfl rfl (Y_bytes_strN rfl sln) ?_
          refine TL_y rfl rfl (Y_build rfl rfl) ?_
          refine TL_store rfl rfl rfl rfl rfl rfl ?_
          refine TL_nil ?_
          refine T_ret ?_
          have hch : chgA s m := by unfold chgA; rw [hg]; simp only [ne_eq, Option.some.injEq, hkey]; simp_all
          have hj : judgeV s m = .agg #[.string (strOfNums (outB (wMsg m ([], false)))), .bool true, .bool false] := by unfold judgeV recA; rw [if_pos ⟨hm, hn, hch⟩, decide_eq_true hm, decide_eq_false (fun h => hn h.2)]
          rw [hj]
          refine RetQ.gives (ac_close b s hi) ?_
          exact RetG_1 (.inl rfl) rfl (ResV.agg rfl rfl) GivesTo.g (⟨rfl, rfl⟩)
        · refine TL_grun rfl rfl ?_
          refine TL_y rfl rfl (Y_move rfl) ?_
          refine TL_grun rfl rfl ?_
          refine TL_y rfl rfl (Y_not_d rfl) ?_
          refine TL_y rfl rfl (Y_pick_f rfl rfl) ?_
          refine TL_y rfl rfl (Y_assign rfl) ?_
          refine TL_nil ?_
          refine thenS_normal ?_
          refine T_seq ?_
          refine T_region ?_
          refine TL_y rfl rfl (Y_move rfl) ?_
          refine TL_y rfl rfl (Y_not_d rfl) ?_
          refine TL_nil ?_
          refine T_if rfl (fun h148 => ?_) (fun h148 => ?_)
          · refine T_region_last ?_
            refine TL_y rfl rfl (Y_assign rfl) ?_
            refine TL_nil ?_
            refine thenS_normal ?_
            refine T_region ?_
            refine TL_y rfl rfl (Y_move rfl) ?_
            refine TL_name 149 (v' := .slice none ([] : List Int).length 0) rfl (rfl) ?_
            refine TL_y rfl rfl (Y_bytes_strN (A := none) (c := 0) (xs := []) rfl .nil) ?_
            refine TL_y rfl rfl (Y_build rfl rfl) ?_
            refine TL_store rfl rfl rfl rfl rfl rfl ?_
            refine TL_nil ?_
            refine T_ret ?_
            have hch : ¬ chgA s m := by unfold chgA; rw [hg]; simp only [ne_eq, Option.some.injEq, hkey]; simp_all
            have hj : judgeV s m = .agg #[.string (strOfNums []), .bool true, .bool false] := by unfold judgeV recA; rw [if_neg (fun h => hch h.2.2), decide_eq_true hm, decide_eq_false (fun h => hn h.2)]; rfl
            rw [hj]
            refine RetQ.gives (ac_close b s hi) ?_
            exact RetG_1 (.inl rfl) rfl (ResV.agg rfl rfl) GivesTo.g (⟨rfl, rfl⟩)
          · refine T_skip ?_
            refine thenS_normal ?_
            refine T_region ?_
            refine TL_y rfl rfl (Y_move rfl) ?_
            refine TL_y rfl rfl (Y_bytes_strN rfl sln) ?_
            refine TL_y rfl rfl (Y_build rfl rfl) ?_
            refine TL_store rfl rfl rfl rfl rfl rfl ?_
            refine TL_nil ?_
            refine T_ret ?_
            have hch : chgA s m := by unfold chgA; rw [hg]; simp only [ne_eq, Option.some.injEq, hkey]; simp_all
            have hj : judgeV s m = .agg #[.string (strOfNums (outB (wMsg m ([], false)))), .bool true, .bool false] := by unfold judgeV recA; rw [if_pos ⟨hm, hn, hch⟩, decide_eq_true hm, decide_eq_false (fun h => hn h.2)]
            rw [hj]
            refine RetQ.gives (ac_close b s hi) ?_
            exact RetG_1 (.inl rfl) rfl (ResV.agg rfl rfl) GivesTo.g (⟨rfl, rfl⟩)
      · refine RD_leaf _ [0, 1, 3, 0, 8, 24, 128, 0, 199, 511] [] [(0, true), (1, true), (2, true), (3, true), (4, true), (5, true), (7, false), (6, false), (8, false), (9, false)] (by decide +kernel) (Gives.refl _) ?_
        refine TF_y rfl rfl (Y_field_addr rfl) ?_
        refine TF_y rfl rfl (Y_field_addr rfl) ?_
        refine TF_y rfl rfl (Y_load_agg rfl rfl) ?_
        refine TF_y rfl rfl (Y_field_addr rfl) ?_
        refine TF_y rfl rfl (Y_field_addr rfl) ?_
        refine TF_y rfl rfl (Y_load_agg rfl rfl) ?_
        refine TF_anchor rfl ?_
        refine TL_alloc rfl rfl ?_
        intro b12
        refine TF_end GivesTo.g ?_
        refine TF_anchor rfl ?_
        refine TL_alloc rfl rfl ?_
        intro b11
        refine TF_end GivesTo.g ?_
        refine TF_anchor rfl ?_
        refine TL_store rfl rfl rfl rfl rfl rfl ?_
        refine TF_end GivesTo.g ?_
        refine TF_anchor rfl ?_
        refine TL_store rfl rfl rfl rfl rfl rfl ?_
        refine TF_end GivesTo.g ?_
        refine TF_nil ?_
        refine thenS_normal ?_
        refine T_region ?_
        refine TL_both 45 141 (u.bal = m.bal ∧ u.en = m.en) ?_ ?_
        · refine TL_y rfl rfl (Y_move rfl) ?_
          refine TL_y rfl rfl (Y_move rfl) ?_
          refine TL_grun rfl rfl ?_
          refine TL_y rfl rfl (Y_field_addr rfl) ?_
          refine TL_grun rfl rfl ?_
          refine TL_y rfl rfl (Y_load_agg rfl rfl) ?_
          refine TL_grun rfl rfl ?_
          refine TL_y rfl rfl (Y_field_addr rfl) ?_
          refine TL_grun rfl rfl ?_
          refine TL_y rfl rfl (Y_load_agg rfl rfl) ?_
          refine TL_grun rfl rfl ?_
          refine TL_y rfl rfl (Y_eq_bal rfl rfl) ?_
          refine TL_y rfl rfl (Y_pick_t rfl rfl) ?_
          refine TL_y rfl rfl (Y_move rfl) ?_
          refine TL_splitd 105 rfl (fun h105 => ?_) (fun h105 => ?_)
          · refine TL_grun rfl rfl ?_
            refine TL_y rfl rfl (Y_field_addr rfl) ?_
            refine TL_grun rfl rfl ?_
            refine TL_y rfl rfl (Y_field_addr rfl) ?_
            refine TL_grun rfl rfl ?_
            refine TL_y rfl rfl (Y_load rfl rfl) ?_
            refine TL_grun rfl rfl ?_
            refine TL_y rfl rfl (Y_field_addr rfl) ?_
            refine TL_grun rfl rfl ?_
            refine TL_y rfl rfl (Y_field_addr rfl) ?_
            refine TL_grun rfl rfl ?_
            refine TL_y rfl rfl (Y_load rfl rfl) ?_
            refine TL_grun rfl rfl ?_
            refine TL_y rfl rfl (Y_equal rfl rfl (EqIs.bool)) ?_
            refine TL_name 112 (v' := .bool (decide (u.en.noop = m.en.noop))) rfl (by cases u.en.noop <;> cases m.en.noop <;> rfl) ?_
            refine TL_y rfl rfl (Y_pick_t rfl rfl) ?_
            refine TL_y rfl rfl (Y_move rfl) ?_
            refine TL_splitd 114 rfl (fun h114 => ?_) (fun h114 => ?_)
            · refine TL_grun rfl rfl ?_
              refine TL_y rfl rfl (Y_field_addr rfl) ?_
              refine TL_grun rfl rfl ?_
              refine TL_y rfl rfl (Y_load rfl rfl) ?_
              refine TL_grun rfl rfl ?_
              refine TL_y rfl rfl (Y_field_addr rfl) ?_
              refine TL_grun rfl rfl ?_
              refine TL_y rfl rfl (Y_load rfl rfl) ?_
              refine TL_grun rfl rfl ?_
              refine TL_y rfl rfl (Y_str_eq rfl rfl) ?_
              refine TL_y rfl rfl (Y_pick_t rfl rfl) ?_
              refine TL_y rfl rfl (Y_move rfl) ?_
              refine TL_splitd 121 rfl (fun h121 => ?_) (fun h121 => ?_)
              · refine TL_grun rfl rfl ?_
                refine TL_y rfl rfl (Y_field_addr rfl) ?_
                refine TL_grun rfl rfl ?_
                refine TL_y rfl rfl (Y_load rfl rfl) ?_
                refine TL_grun rfl rfl ?_
                refine TL_y rfl rfl (Y_field_addr rfl) ?_
                refine TL_grun rfl rfl ?_
                refine TL_y rfl rfl (Y_load rfl rfl) ?_
                refine TL_grun rfl rfl ?_
                refine TL_y rfl rfl (Y_str_eq rfl rfl) ?_
                refine TL_y rfl rfl (Y_pick_t rfl rfl) ?_
                refine TL_y rfl rfl (Y_move rfl) ?_
                refine TL_splitd 128 rfl (fun h128 => ?_) (fun h128 => ?_)
                · refine TL_grun rfl rfl ?_
                  refine TL_y rfl rfl (Y_field_addr rfl) ?_
                  refine TL_grun rfl rfl ?_
                  refine TL_y rfl rfl (Y_load rfl rfl) ?_
                  refine TL_grun rfl rfl ?_
                  refine TL_y rfl rfl (Y_field_addr rfl) ?_
                  refine TL_grun rfl rfl ?_
                  refine TL_y rfl rfl (Y_load rfl rfl) ?_
                  refine TL_grun rfl rfl ?_
                  refine TL_y rfl rfl (Y_eq rfl rfl) ?_
                  refine TL_y rfl rfl (Y_pick_t rfl rfl) ?_
                  refine TL_y rfl rfl (Y_move rfl) ?_
                  refine TL_splitd 135 rfl (fun h135 => ?_) (fun h135 => ?_)
                  · refine TL_grun rfl rfl ?_
                    refine TL_y rfl rfl (Y_field_addr rfl) ?_
                    refine TL_grun rfl rfl ?_
                    refine TL_y rfl rfl (Y_load rfl rfl) ?_
                    refine TL_grun rfl rfl ?_
                    refine TL_y rfl rfl (Y_field_addr rfl) ?_
                    refine TL_grun rfl rfl ?_
                    refine TL_y rfl rfl (Y_load rfl rfl) ?_
                    refine TL_grun rfl rfl ?_
                    refine TL_call rfl rfl (equalInts_spec sln (SlN.of_gives GivesTo.g hk.cut.n)) ?_
                    rintro _ _ ⟨rfl, rfl⟩
                    refine TL_y rfl rfl (Y_pick_t rfl rfl) ?_
                    refine TL_chain_end rfl ?_ (by repeat (first | exact sub_refl | refine sub_ext rfl ?_)) GivesTo.g
                    exact congrArg Value.bool (decide_eq_decide.2 (by rw [en_eq]; simp_all))
                  · refine TL_gskip rfl rfl rfl rfl ?_
                    refine TL_gskip rfl rfl rfl rfl ?_
                    refine TL_gskip rfl rfl rfl rfl ?_
                    refine TL_gskip rfl rfl rfl rfl ?_
                    refine TL_gskip rfl rfl rfl rfl ?_
                    refine TL_y rfl rfl (Y_pick_f rfl rfl) ?_
                    refine TL_chain_end rfl ?_ (by repeat (first | exact sub_refl | refine sub_ext rfl ?_)) GivesTo.g
                    exact congrArg Value.bool (decide_eq_false (by rw [en_eq]; simp_all)).symm
                · refine TL_gskip rfl rfl rfl rfl ?_
                  refine TL_gskip rfl rfl rfl rfl ?_
                  refine TL_gskip rfl rfl rfl rfl ?_
                  refine TL_gskip rfl rfl rfl rfl ?_
                  refine TL_gskip rfl rfl rfl rfl ?_
                  refine TL_y rfl rfl (Y_pick_f rfl rfl) ?_
                  refine TL_y rfl rfl (Y_move rfl) ?_
                  refine TL_gskip rfl rfl rfl rfl ?_
                  refine TL_gskip rfl rfl rfl rfl ?_
                  refine TL_gskip rfl rfl rfl rfl ?_
                  refine TL_gskip rfl rfl rfl rfl ?_
                  refine TL_gskip rfl rfl rfl rfl ?_
                  refine TL_y rfl rfl (Y_pick_f rfl rfl) ?_
                  refine TL_chain_end rfl ?_ (by repeat (first | exact sub_refl | refine sub_ext rfl ?_)) GivesTo.g
                  exact congrArg Value.bool (decide_eq_false (by rw [en_eq]; simp_all)).symm
              · refine TL_gskip rfl rfl rfl rfl ?_
                refine TL_gskip rfl rfl rfl rfl ?_
                refine TL_gskip rfl rfl rfl rfl ?_
                refine TL_gskip rfl rfl rfl rfl ?_
                refine TL_gskip rfl rfl rfl rfl ?_
                refine TL_y rfl rfl (Y_pick_f rfl rfl) ?_
                refine TL_y rfl rfl (Y_move rfl) ?_
                refine TL_gskip rfl rfl rfl rfl ?_
                refine TL_gskip rfl rfl rfl rfl ?_
                refine TL_gskip rfl rfl rfl rfl ?_
                refine TL_gskip rfl rfl rfl rfl ?_
                refine TL_gskip rfl rfl rfl rfl ?_
                refine TL_y rfl rfl (Y_pick_f rfl rfl) ?_
                refine TL_y rfl rfl (Y_move rfl) ?_
                refine TL_gskip rfl rfl rfl rfl ?_
                refine TL_gskip rfl rfl rfl rfl ?_
                refine TL_gskip rfl rfl rfl rfl ?_
                refine TL_gskip rfl rfl rfl rfl ?_
                refine TL_gskip rfl rfl rfl rfl ?_
                refine TL_y rfl rfl (Y_pick_f rfl rfl) ?_
                refine TL_chain_end rfl ?_ (by repeat (first | exact sub_refl | refine sub_ext rfl ?_)) GivesTo.g
                exact congrArg Value.bool (decide_eq_false (by rw [en_eq]; simp_all)).symm
            · refine TL_gskip rfl rfl rfl rfl ?_
              refine TL_gskip rfl rfl rfl rfl ?_
              refine TL_gskip rfl rfl rfl rfl ?_
              refine TL_gskip rfl rfl rfl rfl ?_
              refine TL_gskip rfl rfl rfl rfl ?_
              refine TL_y rfl rfl (Y_pick_f rfl rfl) ?_
              refine TL_y rfl rfl (Y_move rfl) ?_
              refine TL_gskip rfl rfl rfl rfl ?_
              refine TL_gskip rfl rfl rfl rfl ?_
              refine TL_gskip rfl rfl rfl rfl ?_
              refine TL_gskip rfl rfl rfl rfl ?_
              refine TL_gskip rfl rfl rfl rfl ?_
              refine TL_y rfl rfl (Y_pick_f rfl rfl) ?_
              refine TL_y rfl rfl (Y_move rfl) ?_
              refine TL_gskip rfl rfl rfl rfl ?_
              refine TL_gskip rfl rfl rfl rfl ?_
              refine TL_gskip rfl rfl rfl rfl ?_
              refine TL_gskip rfl rfl rfl rfl ?_
              refine TL_gskip rfl rfl rfl rfl ?_
              refine TL_y rfl rfl (Y_pick_f rfl rfl) ?_
              refine TL_y rfl rfl (Y_move rfl) ?_
              refine TL_gskip rfl rfl rfl rfl ?_
              refine TL_gskip rfl rfl rfl rfl ?_
              refine TL_gskip rfl rfl rfl rfl ?_
              refine TL_gskip rfl rfl rfl rfl ?_
              refine TL_gskip rfl rfl rfl rfl ?_
              refine TL_y rfl rfl (Y_pick_f rfl rfl) ?_
              refine TL_chain_end rfl ?_ (by repeat (first | exact sub_refl | refine sub_ext rfl ?_)) GivesTo.g
              exact congrArg Value.bool (decide_eq_false (by rw [en_eq]; simp_all)).symm
          · refine TL_gskip rfl rfl rfl rfl ?_
            refine TL_gskip rfl rfl rfl rfl ?_
            refine TL_gskip rfl rfl rfl rfl ?_
            refine TL_gskip rfl rfl rfl rfl ?_
            refine TL_gskip rfl rfl rfl rfl ?_
            refine TL_gskip rfl rfl rfl rfl ?_
            refine TL_gskip rfl rfl rfl rfl ?_
            refine TL_y rfl rfl (Y_pick_f rfl rfl) ?_
            refine TL_y rfl rfl (Y_move rfl) ?_
            refine TL_gskip rfl rfl rfl rfl ?_
            refine TL_gskip rfl rfl rfl rfl ?_
            refine TL_gskip rfl rfl rfl rfl ?_
            refine TL_gskip rfl rfl rfl rfl ?_
            refine TL_gskip rfl rfl rfl rfl ?_
            refine TL_y rfl rfl (Y_pick_f rfl rfl) ?_
            refine TL_y rfl rfl (Y_move rfl) ?_
            refine TL_gskip rfl rfl rfl rfl ?_
            refine TL_gskip rfl rfl rfl rfl ?_
            refine TL_gskip rfl rfl rfl rfl ?_
            refine TL_gskip rfl rfl rfl rfl ?_
            refine TL_gskip rfl rfl rfl rfl ?_
            refine TL_y rfl rfl (Y_pick_f rfl rfl) ?_
            refine TL_y rfl rfl (Y_move rfl) ?_
            refine TL_gskip rfl rfl rfl rfl ?_
            refine TL_gskip rfl rfl rfl rfl ?_
            refine TL_gskip rfl rfl rfl rfl ?_
            refine TL_gskip rfl rfl rfl rfl ?_
            refine TL_gskip rfl rfl rfl rfl ?_
            refine TL_y rfl rfl (Y_pick_f rfl rfl) ?_
            refine TL_y rfl rfl (Y_move rfl) ?_
            refine TL_gskip rfl rfl rfl rfl ?_
            refine TL_gskip rfl rfl rfl rfl ?_
            refine TL_gskip rfl rfl rfl rfl ?_
            refine TL_gskip rfl rfl rfl rfl ?_
            refine TL_gskip rfl rfl rfl rfl ?_
            refine TL_y rfl rfl (Y_pick_f rfl rfl) ?_
            refine TL_chain_end rfl ?_ (by repeat (first | exact sub_refl | refine sub_ext rfl ?_)) GivesTo.g
            exact congrArg Value.bool (decide_eq_false (by rw [en_eq]; simp_all)).symm
        refine TL_y rfl rfl (Y_assign rfl) ?_
        refine TL_nil ?_
        refine T_region_last ?_
        refine TL_y rfl rfl (Y_move rfl) ?_
        refine TL_y rfl rfl (Y_move rfl) ?_
        refine TL_splitd 143 rfl (fun h143 => ?_) (fun h143 => ?_)
        · refine TL_gskip rfl rfl rfl rfl ?_
          refine TL_gskip rfl rfl rfl rfl ?_
          refine TL_y rfl rfl (Y_pick_t rfl rfl) ?_
          refine TL_y rfl rfl (Y_assign rfl) ?_
          refine TL_nil ?_
          refine thenS_normal ?_
          refine T_seq ?_
          refine T_region ?_
          refine TL_y rfl rfl (Y_move rfl) ?_
          refine TL_y rfl rfl (Y_not_t rfl) ?_
          refine TL_nil ?_
          refine T_cond_false rfl ?_
          refine T_skip ?_
          refine thenS_normal ?_
          refine T_region ?_
          refine TL_y rfl rfl (Y_move rfl) ?_
          refine TL_y rfl rfl (Y_bytes_strN rfl sln) ?_
          refine TL_y rfl rfl (Y_build rfl rfl) ?_
          refine TL_store rfl rfl rfl rfl rfl rfl ?_
          refine TL_nil ?_
          refine T_ret ?_
          have hch : chgA s m := by unfold chgA; rw [hg]; simp only [ne_eq, Option.some.injEq, hkey]; simp_all
          have hj : judgeV s m = .agg #[.string (strOfNums (outB (wMsg m ([], false)))), .bool true, .bool false] := by unfold judgeV recA; rw [if_pos ⟨hm, hn, hch⟩, decide_eq_true hm, decide_eq_false (fun h => hn h.2)]
          rw [hj]
          refine RetQ.gives (ac_close b s hi) ?_
          exact RetG_1 (.inl rfl) rfl (ResV.agg rfl rfl) GivesTo.g (⟨rfl, rfl⟩)
        · refine TL_grun rfl rfl ?_
          refine TL_y rfl rfl (Y_move rfl) ?_
          refine TL_grun rfl rfl ?_
          refine TL_y rfl rfl (Y_not_d rfl) ?_
          refine TL_y rfl rfl (Y_pick_f rfl rfl) ?_
          refine TL_y rfl rfl (Y_assign rfl) ?_
          refine TL_nil ?_
          refine thenS_normal ?_
          refine T_seq ?_
          refine T_region ?_
          refine TL_y rfl rfl (Y_move rfl) ?_
          refine TL_y rfl rfl (Y_not_d rfl) ?_
          refine TL_nil ?_
          refine T_if rfl (fun h148 => ?_) (fun h148 => ?_)
          · refine T_region_last ?_
            refine TL_y rfl rfl (Y_assign rfl) ?_
            refine TL_nil ?_
            refine thenS_normal ?_
            refine T_region ?_
            refine TL_y rfl rfl (Y_move rfl) ?_
            refine TL_name 149 (v' := .slice none ([] : List Int).length 0) rfl (rfl) ?_
            refine TL_y rfl rfl (Y_bytes_strN (A := none) (c := 0) (xs := []) rfl .nil) ?_
            refine TL_y rfl rfl (Y_build rfl rfl) ?_
            refine TL_store rfl rfl rfl rfl rfl rfl ?_
            refine TL_nil ?_
            refine T_ret ?_
            have hch : ¬ chgA s m := by unfold chgA; rw [hg]; simp only [ne_eq, Option.some.injEq, hkey]; simp_all
            have hj : judgeV s m = .agg #[.string (strOfNums []), .bool true, .bool false] := by unfold judgeV recA; rw [if_neg (fun h => hch h.2.2), decide_eq_true hm, decide_eq_false (fun h => hn h.2)]; rfl
            rw [hj]
            refine RetQ.gives (ac_close b s hi) ?_
            exact RetG_1 (.inl rfl) rfl (ResV.agg rfl rfl) GivesTo.g (⟨rfl, rfl⟩)
          · refine T_skip ?_
            refine thenS_normal ?_
            refine T_region ?_
            refine TL_y rfl rfl (Y_move rfl) ?_
            refine TL_y rfl rfl (Y_bytes_strN rfl sln) ?_
            refine TL_y rfl rfl (Y_build rfl rfl) ?_
            refine TL_store rfl rfl rfl rfl rfl rfl ?_
            refine TL_nil ?_
            refine T_ret ?_
            have hch : chgA s m := by unfold chgA; rw [hg]; simp only [ne_eq, Option.some.injEq, hkey]; simp_all
            have hj : judgeV s m = .agg #[.string (strOfNums (outB (wMsg m ([], false)))), .bool true, .bool false] := by unfold judgeV recA; rw [if_pos ⟨hm, hn, hch⟩, decide_eq_true hm, decide_eq_false (fun h => hn h.2)]
            rw [hj]
            refine RetQ.gives (ac_close b s hi) ?_
            exact RetG_1 (.inl rfl) rfl (ResV.agg rfl rfl) GivesTo.g (⟨rfl, rfl⟩)
  · refine RD_leaf _ [0, 1, 3, 7, 0, 16, 1087, 1151, 1279, 1279, 0, 1535, 4095] [] [(0, true), (1, true), (2, true), (3, true), (4, true), (5, true), (10, false), (6, false), (7, true), (8, true), (9, true), (11, false), (12, true)] (by decide +kernel) (Gives.refl _) ?_
    refine TF_y rfl rfl (Y_move rfl) ?_
    refine TF_y rfl rfl (Y_nil_check rfl) ?_
    refine TF_y rfl rfl (Y_field_addr rfl) ?_
    refine TF_y rfl rfl (Y_load rfl rfl) ?_
    refine TF_y rfl rfl (Y_field_addr rfl) ?_
    refine TF_y rfl rfl (Y_load rfl rfl) ?_
    refine TF_anchor rfl ?_
    refine TL_alloc rfl rfl ?_
    intro b7
    refine TF_end GivesTo.g ?_
    refine TF_anchor rfl ?_
    refine TL_lookup_okx (R := votedR) (k := m.slot) rfl rfl rfl hx.slot (fun hn => absurd hn (by rw [hg]; simp)) (fun u2 p2 hu hou => ?_)
    rw [hg] at hu
    obtain rfl := Option.some.inj hu
    simp only [List.cons_append, List.nil_append]
    refine TF_end GivesTo.g ?_
    refine TF_y rfl rfl (Y_move rfl) ?_
    refine TF_y rfl rfl (Y_extract rfl rfl) ?_
    refine TF_y rfl rfl (Y_extract rfl rfl) ?_
    refine TF_name 55 (v' := .bool true) rfl (rfl) ?_
    refine TF_anchor rfl ?_
    refine TL_store rfl rfl rfl rfl rfl rfl ?_
    refine TF_end GivesTo.g ?_
    refine TF_y rfl rfl (Y_assign rfl) ?_
    refine TF_nil ?_
    refine thenS_normal ?_
    refine T_region ?_
    refine TL_y rfl rfl (Y_field_addr rfl) ?_
    refine TL_y rfl rfl (Y_load rfl rfl) ?_
    refine TL_y rfl rfl (Y_eq rfl rfl) ?_
    refine TL_name 58 (v' := .bool true) rfl (congrArg Value.bool (decide_eq_true h3)) ?_
    refine TL_y rfl rfl (Y_assign rfl) ?_
    refine TL_nil ?_
    refine T_seq ?_
    refine T_region_draw _ [0, 1, 0, 4, 12, 28, 63, 127, 255, 511, 1023, 2047, 4095, 8191, 16383, 32767, 65535, 131071, 262143, 524287, 1048575, 2097151, 4194303] [] [(0, true), (1, true), (2, true), (3, true), (4, true), (5, true), (6, false), (7, true), (8, true), (9, true), (10, true), (11, true), (12, true), (13, true), (14, true), (15, true), (16, true), (17, true), (18, true), (19, true), (20, true), (21, true), (22, true)] (by kernel_rfl) (by decide +kernel) (Gives.refl _) ?_
    refine TF_y rfl rfl (Y_field_addr rfl) ?_
    refine TF_y rfl rfl (Y_load_agg rfl rfl) ?_
    refine TF_y rfl rfl (Y_move rfl) ?_
    refine TF_y rfl rfl (Y_nil_check rfl) ?_
    refine TF_y rfl rfl (Y_field_addr rfl) ?_
    refine TF_y rfl rfl (Y_load_agg rfl rfl) ?_
    refine TF_anchor rfl ?_
    refine TL_call rfl rfl (compare_spec m.bal s.prom _) ?_
    rintro _ _ ⟨rfl, rfl⟩
    refine TF_end GivesTo.g ?_
    refine TF_y rfl rfl (Y_lt rfl rfl) ?_
    refine TF_y rfl rfl (Y_move rfl) ?_
    refine TF_splitd 67 rfl (fun h67 => ?_) (fun h67 => ?_)
    · refine TF_gskip rfl rfl rfl rfl rfl ?_
      refine TF_gskip rfl rfl rfl rfl rfl ?_
      refine TF_gskip_u rfl rfl rfl rfl ?_
      refine TF_gskip_u rfl rfl rfl rfl ?_
      refine TF_gskip rfl rfl rfl rfl rfl ?_
      refine TF_gskip rfl rfl rfl rfl rfl ?_
      refine TF_gskip_u rfl rfl rfl rfl ?_
      refine TF_gskip_u rfl rfl rfl rfl ?_
      refine TF_gskip_u rfl rfl rfl rfl ?_
      refine TF_gskip_u rfl rfl rfl rfl ?_
      refine TF_gskip_u rfl rfl rfl rfl ?_
      refine TF_gskip_u rfl rfl rfl rfl ?_
      refine TF_gskip rfl rfl rfl rfl rfl ?_
      refine TF_y rfl rfl (Y_pick_t rfl rfl) ?_
      refine TF_nil ?_
      refine T_cond_true rfl ?_
      refine T_region ?_
      refine TL_y rfl rfl (Y_build rfl rfl) ?_
      refine TL_store rfl rfl rfl rfl rfl rfl ?_
      refine TL_nil ?_
      refine T_ret ?_
      refine thenS_ret ?_
      have hn : nackA s m := .inl (by omega)
      have hj : judgeV s m = .agg #[.string ⟨#[]⟩, .bool true, .bool true] := by unfold judgeV recA; rw [if_neg (fun h => h.2.1 hn), decide_eq_true hm, decide_eq_true (And.intro hm hn)]
      rw [hj]
      refine RetQ.gives (ac_close b s hi) ?_
      exact RetG_1 (.inl rfl) rfl (ResV.agg rfl rfl) GivesTo.g (⟨rfl, rfl⟩)
    · refine TF_gy rfl rfl rfl rfl (Y_move rfl) ?_
      refine TF_gy rfl rfl rfl rfl (Y_move rfl) ?_
      refine TF_gy rfl rfl rfl rfl (Y_move rfl) ?_
      refine TF_gy rfl rfl rfl rfl (Y_not_t rfl) ?_
      refine TF_gy rfl rfl rfl rfl (Y_pick_t rfl rfl) ?_
      refine TF_gy rfl rfl rfl rfl (Y_move rfl) ?_
      refine TF_gskip rfl rfl rfl rfl rfl ?_
      refine TF_gskip rfl rfl rfl rfl rfl ?_
      refine TF_gskip rfl rfl rfl rfl rfl ?_
      refine TF_gskip rfl rfl rfl rfl rfl ?_
      refine TF_gskip rfl rfl rfl rfl rfl ?_
      refine TF_gskip rfl rfl rfl rfl rfl ?_
      refine TF_gy rfl rfl rfl rfl (Y_pick_f rfl rfl) ?_
      refine TF_y rfl rfl (Y_pick_f rfl rfl) ?_
      refine TF_nil ?_
      refine T_cond_false rfl ?_
      refine T_skip ?_
      refine thenS_normal ?_
      have hn : ¬ nackA s m := by unfold nackA; rw [hg]; rintro (h | ⟨_, h, _⟩); omega; cases h
      have hkey : u = newV m ↔ u.bal = m.bal ∧ u.en = m.en := by have hus := (vmap_get hg).2; obtain ⟨u1, u2, u3⟩ := u; dsimp only at hus; subst hus; simp [newV]
      refine T_region_draw _ [0, 1, 3, 7, 0, 16, 63, 127] [] [(0, true), (1, true), (2, true), (3, true), (4, true), (5, true), (6, true), (7, true)] (by kernel_rfl) (by decide +kernel) (Gives.refl _) ?_
      refine TF_y rfl rfl (Y_move rfl) ?_
      refine TF_y rfl rfl (Y_nil_check rfl) ?_
      refine TF_y rfl rfl (Y_field_addr rfl) ?_
      refine TF_y rfl rfl (Y_load_agg rfl rfl) ?_
      refine TF_y rfl rfl (Y_field_addr rfl) ?_
      refine TF_y rfl rfl (Y_load_agg rfl rfl) ?_
      refine TF_y rfl rfl (Y_ne_bal rfl rfl) ?_
      refine TF_name 89 (v' := .bool (decide (s.prom ≠ m.bal))) rfl (by by_cases h : s.prom = m.bal <;> simp [h]) ?_
      refine TF_y rfl rfl (Y_assign rfl) ?_
      refine TF_nil ?_
      refine T_seq ?_
      refine T_region ?_
      refine TL_y rfl rfl (Y_move rfl) ?_
      refine TL_nil ?_
      refine T_cond_true rfl ?_
      refine T_rd [0, 1, 3, 0, 8, 24, 0, 0, 199, 511] (by kernel_rfl) (by decide +kernel) ?_
      refine RD_pair 6 7 (by decide) ?_ ?_
      · refine RD_leaf _ [0, 1, 3, 0, 8, 24, 0, 64, 199, 511] [] [(0, true), (1, true), (2, true), (3, true), (4, true), (5, true), (6, false), (7, false), (8, false), (9, false)] (by decide +kernel) (Gives.refl _) ?_
        refine TF_y rfl rfl (Y_field_addr rfl) ?_
        refine TF_y rfl rfl (Y_field_addr rfl) ?_
        refine TF_y rfl rfl (Y_load_agg rfl rfl) ?_
        refine TF_y rfl rfl (Y_field_addr rfl) ?_
        refine TF_y rfl rfl (Y_field_addr rfl) ?_
        refine TF_y rfl rfl (Y_load_agg rfl rfl) ?_
        refine TF_anchor rfl ?_
        refine TL_alloc rfl rfl ?_
        intro b11
        refine TF_end GivesTo.g ?_
        refine TF_anchor rfl ?_
        refine TL_alloc rfl rfl ?_
        intro b12
        refine TF_end GivesTo.g ?_
        refine TF_anchor rfl ?_
        refine TL_store rfl rfl rfl rfl rfl rfl ?_
        refine TF_end GivesTo.g ?_
        refine TF_anchor rfl ?_
        refine TL_store rfl rfl rfl rfl rfl rfl ?_
        refine TF_end GivesTo.g ?_
        refine TF_nil ?_
        refine thenS_normal ?_
        refine T_region ?_
        refine TL_both 45 141 (u.bal = m.bal ∧ u.en = m.en) ?_ ?_
        · refine TL_y rfl rfl (Y_move rfl) ?_
          refine TL_y rfl rfl (Y_move rfl) ?_
          refine TL_grun rfl rfl ?_
          refine TL_y rfl rfl (Y_field_addr rfl) ?_
          refine TL_grun rfl rfl ?_
          refine TL_y rfl rfl (Y_load_agg rfl rfl) ?_
          refine TL_grun rfl rfl ?_
          refine TL_y rfl rfl (Y_field_addr rfl) ?_
          refine TL_grun rfl rfl ?_
          refine TL_y rfl rfl (Y_load_agg rfl rfl) ?_
          refine TL_grun rfl rfl ?_
          refine TL_y rfl rfl (Y_eq_bal rfl rfl) ?_
          refine TL_y rfl rfl (Y_pick_t rfl rfl) ?_
          refine TL_y rfl rfl (Y_move rfl) ?_
          refine TL_splitd 105 rfl (fun h105 => ?_) (fun h105 => ?_)
          · refine TL_grun rfl rfl ?_
            refine TL_y rfl rfl (Y_field_addr rfl) ?_
            refine TL_grun rfl rfl ?_
            refine TL_y rfl rfl (Y_field_addr rfl) ?_
            refine TL_grun rfl rfl ?_
            refine TL_y rfl rfl (Y_load rfl rfl) ?_
            refine TL_grun rfl rfl ?_
            refine TL_y rfl rfl (Y_field_addr rfl) ?_
            refine TL_grun rfl rfl ?_
            refine TL_y rfl rfl (Y_field_addr rfl) ?_
            refine TL_grun rfl rfl ?_
            refine TL_y rfl rfl (Y_load rfl rfl) ?_
            refine TL_grun rfl rfl ?_
            refine TL_y rfl rfl (Y_equal rfl rfl (EqIs.bool)) ?_
            refine TL_name 112 (v' := .bool (decide (u.en.noop = m.en.noop))) rfl (by cases u.en.noop <;> cases m.en.noop <;> rfl) ?_
            refine TL_y rfl rfl (Y_pick_t rfl rfl) ?_
            refine TL_y rfl rfl (Y_move rfl) ?_
            refine TL_splitd 114 rfl (fun h114 => ?_) (fun h114 => ?_)
            · refine TL_grun rfl rfl ?_
              refine TL_y rfl rfl (Y_field_addr rfl) ?_
              refine TL_grun rfl rfl ?_
              refine TL_y rfl rfl (Y_load rfl rfl) ?_
              refine TL_grun rfl rfl ?_
              refine TL_y rfl rfl (Y_field_addr rfl) ?_
              refine TL_grun rfl rfl ?_
              refine TL_y rfl rfl (Y_load rfl rfl) ?_
              refine TL_grun rfl rfl ?_
              refine TL_y rfl rfl (Y_str_eq rfl rfl) ?_
              refine TL_y rfl rfl (Y_pick_t rfl rfl) ?_
              refine TL_y rfl rfl (Y_move rfl) ?_
              refine TL_splitd 121 rfl (fun h121 => ?_) (fun h121 => ?_)
              · refine TL_grun rfl rfl ?_
                refine TL_y rfl rfl (Y_field_addr rfl) ?_
                refine TL_grun rfl rfl ?_
                refine TL_y rfl rfl (Y_load rfl rfl) ?_
                refine TL_grun rfl rfl ?_
                refine TL_y rfl rfl (Y_field_addr rfl) ?_
                refine TL_grun rfl rfl ?_
                refine TL_y rfl rfl (Y_load rfl rfl) ?_
                refine TL_grun rfl rfl ?_
                refine TL_y rfl rfl (Y_str_eq rfl rfl) ?_
                refine TL_y rfl rfl (Y_pick_t rfl rfl) ?_
                refine TL_y rfl rfl (Y_move rfl) ?_
                refine TL_splitd 128 rfl (fun h128 => ?_) (fun h128 => ?_)
                · refine TL_grun rfl rfl ?_
                  refine TL_y rfl rfl (Y_field_addr rfl) ?_
                  refine TL_grun rfl rfl ?_
                  refine TL_y rfl rfl (Y_load rfl rfl) ?_
                  refine TL_grun rfl rfl ?_
                  refine TL_y rfl rfl (Y_field_addr rfl) ?_
                  refine TL_grun rfl rfl ?_
                  refine TL_y rfl rfl (Y_load rfl rfl) ?_
                  refine TL_grun rfl rfl ?_
                  refine TL_y rfl rfl (Y_eq rfl rfl) ?_
                  refine TL_y rfl rfl (Y_pick_t rfl rfl) ?_
                  refine TL_y rfl rfl (Y_move rfl) ?_
                  refine TL_splitd 135 rfl (fun h135 => ?_) (fun h135 => ?_)
                  · refine TL_grun rfl rfl ?_
                    refine TL_y rfl rfl (Y_field_addr rfl) ?_
                    refine TL_grun rfl rfl ?_
                    refine TL_y rfl rfl (Y_load rfl rfl) ?_
                    refine TL_grun rfl rfl ?_
                    refine TL_y rfl rfl (Y_field_addr rfl) ?_
                    refine TL_grun rfl rfl ?_
                    refine TL_y rfl rfl (Y_load rfl rfl) ?_
                    refine TL_grun rfl rfl ?_
                    refine TL_call rfl rfl (equalInts_spec sln (SlN.of_gives GivesTo.g hk.cut.n)) ?_
                    rintro _ _ ⟨rfl, rfl⟩
                    refine TL_y rfl rfl (Y_pick_t rfl rfl) ?_
                    refine TL_chain_end rfl ?_ (by repeat (first | exact sub_refl | refine sub_ext rfl ?_)) GivesTo.g
                    exact congrArg Value.bool (decide_eq_decide.2 (by rw [en_eq]; simp_all))
                  · refine TL_gskip rfl rfl rfl rfl ?_
                    refine TL_gskip rfl rfl rfl rfl ?_
                    refine TL_gskip rfl rfl rfl rfl ?_
                    refine TL_gskip rfl rfl rfl rfl ?_
                    refine TL_gskip rfl rfl rfl rfl ?_
                    refine TL_y rfl rfl (Y_pick_f rfl rfl) ?_
                    refine TL_chain_end rfl ?_ (by repeat (first | exact sub_refl | refine sub_ext rfl ?_)) GivesTo.g
                    exact congrArg Value.bool (decide_eq_false (by rw [en_eq]; simp_all)).symm
                · refine TL_gskip rfl rfl rfl rfl ?_
                  refine TL_gskip rfl rfl rfl rfl ?_
                  refine TL_gskip rfl rfl rfl rfl ?_
                  refine TL_gskip rfl rfl rfl rfl ?_
                  refine TL_gskip rfl rfl rfl rfl ?_
                  refine TL_y rfl rfl (Y_pick_f rfl rfl) ?_
                  refine TL_y rfl rfl (Y_move rfl) ?_
                  refine TL_gskip rfl rfl rfl rfl ?_
                  refine TL_gskip rfl rfl rfl rfl ?_
                  refine TL_gskip rfl rfl rfl rfl ?_
                  refine TL_gskip rfl rfl rfl rfl ?_
                  refine TL_gskip rfl rfl rfl rfl ?_
                  refine TL_y rfl rfl (Y_pick_f rfl rfl) ?_
                  refine TL_chain_end rfl ?_ (by repeat (first | exact sub_refl | refine sub_ext rfl ?_)) GivesTo.g
                  exact congrArg Value.bool (decide_eq_false (by rw [en_eq]; simp_all)).symm
              · refine TL_gskip rfl rfl rfl rfl ?_
                refine TL_gskip rfl rfl rfl rfl ?_
                refine TL_gskip rfl rfl rfl rfl ?_
                refine TL_gskip rfl rfl rfl rfl ?_
                refine TL_gskip rfl rfl rfl rfl ?_
                refine TL_y rfl rfl (Y_pick_f rfl rfl) ?_
                refine TL_y rfl rfl (Y_move rfl) ?_
                refine TL_gskip rfl rfl rfl rfl ?_
                refine TL_gskip rfl rfl rfl rfl ?_
                refine TL_gskip rfl rfl rfl rfl ?_
                refine TL_gskip rfl rfl rfl rfl ?_
                refine TL_gskip rfl rfl rfl rfl ?_
                refine TL_y rfl rfl (Y_pick_f rfl rfl) ?_
                refine TL_y rfl rfl (Y_move rfl) ?_
                refine TL_gskip rfl rfl rfl rfl ?_
                refine TL_gskip rfl rfl rfl rfl ?_
                refine TL_gskip rfl rfl rfl rfl ?_
                refine TL_gskip rfl rfl rfl rfl ?_
                refine TL_gskip rfl rfl rfl rfl ?_
                refine TL_y rfl rfl (Y_pick_f rfl rfl) ?_
                refine TL_chain_end rfl ?_ (by repeat (first | exact sub_refl | refine sub_ext rfl ?_)) GivesTo.g
                exact congrArg Value.bool (decide_eq_false (by rw [en_eq]; simp_all)).symm
            · refine TL_gskip rfl rfl rfl rfl ?_
              refine TL_gskip rfl rfl rfl rfl ?_
              refine TL_gskip rfl rfl rfl rfl ?_
              refine TL_gskip rfl rfl rfl rfl ?_
              refine TL_gskip rfl rfl rfl rfl ?_
              refine TL_y rfl rfl (Y_pick_f rfl rfl) ?_
              refine TL_y rfl rfl (Y_move rfl) ?_
              refine TL_gskip rfl rfl rfl rfl ?_
              refine TL_gskip rfl rfl rfl rfl ?_
              refine TL_gskip rfl rfl rfl rfl ?_
              refine TL_gskip rfl rfl rfl rfl ?_
              refine TL_gskip rfl rfl rfl rfl ?_
              refine TL_y rfl rfl (Y_pick_f rfl rfl) ?_
              refine TL_y rfl rfl (Y_move rfl) ?_
              refine TL_gskip rfl rfl rfl rfl ?_
              refine TL_gskip rfl rfl rfl rfl ?_
              refine TL_gskip rfl rfl rfl rfl ?_
              refine TL_gskip rfl rfl rfl rfl ?_
              refine TL_gskip rfl rfl rfl rfl ?_
              refine TL_y rfl rfl (Y_pick_f rfl rfl) ?_
              refine TL_y rfl rfl (Y_move rfl) ?_
              refine TL_gskip rfl rfl rfl rfl ?_
              refine TL_gskip rfl rfl rfl rfl ?_
              refine TL_gskip rfl rfl rfl rfl ?_
              refine TL_gskip rfl rfl rfl rfl ?_
              refine TL_gskip rfl rfl rfl rfl ?_
              refine TL_y rfl rfl (Y_pick_f rfl rfl) ?_
              refine TL_chain_end rfl ?_ (by repeat (first | exact sub_refl | refine sub_ext rfl ?_)) GivesTo.g
              exact congrArg Value.bool (decide_eq_false (by rw [en_eq]; simp_all)).symm
          · refine TL_gskip rfl rfl rfl rfl ?_
            refine TL_gskip rfl rfl rfl rfl ?_
            refine TL_gskip rfl rfl rfl rfl ?_
            refine TL_gskip rfl rfl rfl rfl ?_
            refine TL_gskip rfl rfl rfl rfl ?_
            refine TL_gskip rfl rfl rfl rfl ?_
            refine TL_gskip rfl rfl rfl rfl ?_
            refine TL_y rfl rfl (Y_pick_f rfl rfl) ?_
            refine TL_y rfl rfl (Y_move rfl) ?_
            refine TL_gskip rfl rfl rfl rfl ?_
            refine TL_gskip rfl rfl rfl rfl ?_
            refine TL_gskip rfl rfl rfl rfl ?_
            refine TL_gskip rfl rfl rfl rfl ?_
            refine TL_gskip rfl rfl rfl rfl ?_
            refine TL_y rfl rfl (Y_pick_f rfl rfl) ?_
            refine TL_y rfl rfl (Y_move rfl) ?_
            refine TL_gskip rfl rfl rfl rfl ?_
            refine TL_gskip rfl rfl rfl rfl ?_
            refine TL_gskip rfl rfl rfl rfl ?_
            refine TL_gskip rfl rfl rfl rfl ?_
            refine TL_gskip rfl rfl rfl rfl ?_
            refine TL_y rfl rfl (Y_pick_f rfl rfl) ?_
            refine TL_y rfl rfl (Y_move rfl) ?_
            refine TL_gskip rfl rfl rfl rfl ?_
            refine TL_gskip rfl rfl rfl rfl ?_
            refine TL_gskip rfl rfl rfl rfl ?_
            refine TL_gskip rfl rfl rfl rfl ?_
            refine TL_gskip rfl rfl rfl rfl ?_
            refine TL_y rfl rfl (Y_pick_f rfl rfl) ?_
            refine TL_y rfl rfl (Y_move rfl) ?_
            refine TL_gskip rfl rfl rfl rfl ?_
            refine TL_gskip rfl rfl rfl rfl ?_
            refine TL_gskip rfl rfl rfl rfl ?_
            refine TL_gskip rfl rfl rfl rfl ?_
            refine TL_gskip rfl rfl rfl rfl ?_
            refine TL_y rfl rfl (Y_pick_f rfl rfl) ?_
            refine TL_chain_end rfl ?_ (by repeat (first | exact sub_refl | refine sub_ext rfl ?_)) GivesTo.g
            exact congrArg Value.bool (decide_eq_false (by rw [en_eq]; simp_all)).symm
        refine TL_y rfl rfl (Y_assign rfl) ?_
        refine TL_nil ?_
        refine T_region_last ?_
        refine TL_y rfl rfl (Y_move rfl) ?_
        refine TL_y rfl rfl (Y_move rfl) ?_
        refine TL_splitd 143 rfl (fun h143 => ?_) (fun h143 => ?_)
        · refine TL_gskip rfl rfl rfl rfl ?_
          refine TL_gskip rfl rfl rfl rfl ?_
          refine TL_y rfl rfl (Y_pick_t rfl rfl) ?_
          refine TL_y rfl rfl (Y_assign rfl) ?_
          refine TL_nil ?_
          refine thenS_normal ?_
          refine T_seq ?_
          refine T_region ?_
          refine TL_y rfl rfl (Y_move rfl) ?_
          refine TL_y rfl rfl (Y_not_t rfl) ?_
          refine TL_nil ?_
          refine T_cond_false rfl ?_
          refine T_skip ?_
          refine thenS_normal ?_
          refine T_region ?_
          refine TL_y rfl rfl (Y_move rfl) ?_
          refine TL_y rfl rfl (Y_bytes_strN rfl sln) ?_
          refine TL_y rfl rfl (Y_build rfl rfl) ?_
          refine TL_store rfl rfl rfl rfl rfl rfl ?_
          refine TL_nil ?_
          refine T_ret ?_
          have hch : chgA s m := by unfold chgA; rw [hg]; simp only [ne_eq, Option.some.injEq, hkey]; simp_all
          have hj : judgeV s m = .agg #[.string (strOfNums (outB (wMsg m ([], false)))), .bool true, .bool false] := by unfold judgeV recA; rw [if_pos ⟨hm, hn, hch⟩, decide_eq_true hm, decide_eq_false (fun h => hn h.2)]
          rw [hj]
          refine RetQ.gives (ac_close b s hi) ?_
          exact RetG_1 (.inl rfl) rfl (ResV.agg rfl rfl) GivesTo.g (⟨rfl, rfl⟩)
        · refine TL_grun rfl rfl ?_
          refine TL_y rfl rfl (Y_move rfl) ?_
          refine TL_grun rfl rfl ?_
          refine TL_y rfl rfl (Y_not_d rfl) ?_
          refine TL_y rfl rfl (Y_pick_f rfl rfl) ?_
          refine TL_y rfl rfl (Y_assign rfl) ?_
          refine TL_nil ?_
          refine thenS_normal ?_
          refine T_seq ?_
          refine T_region ?_
          refine TL_y rfl rfl (Y_move rfl) ?_
          refine TL_y rfl rfl (Y_not_d rfl) ?_
          refine TL_nil ?_
          refine T_if rfl (fun h148 => ?_) (fun h148 => ?_)
          · refine T_region_last ?_
            refine TL_y rfl rfl (Y_assign rfl) ?_
            refine TL_nil ?_
            refine thenS_normal ?_
            refine T_region ?_
            refine TL_y rfl rfl (Y_move rfl) ?_
            refine TL_name 149 (v' := .slice none ([] : List Int).length 0) rfl (rfl) ?_
            refine TL_y rfl rfl (Y_bytes_strN (A := none) (c := 0) (xs := []) rfl .nil) ?_
            refine TL_y rfl rfl (Y_build rfl rfl) ?_
            refine TL_store rfl rfl rfl rfl rfl rfl ?_
            refine TL_nil ?_
            refine T_ret ?_
            have hch : ¬ chgA s m := by unfold chgA; rw [hg]; simp only [ne_eq, Option.some.injEq, hkey]; simp_all
            have hj : judgeV s m = .agg #[.string (strOfNums []), .bool true, .bool false] := by unfold judgeV recA; rw [if_neg (fun h => hch h.2.2), decide_eq_true hm, decide_eq_false (fun h => hn h.2)]; rfl
            rw [hj]
            refine RetQ.gives (ac_close b s hi) ?_
            exact RetG_1 (.inl rfl) rfl (ResV.agg rfl rfl) GivesTo.g (⟨rfl, rfl⟩)
          · refine T_skip ?_
            refine thenS_normal ?_
            refine T_region ?_
            refine TL_y rfl rfl (Y_move rfl) ?_
            refine TL_y rfl rfl (Y_bytes_strN rfl sln) ?_
            refine TL_y rfl rfl (Y_build rfl rfl) ?_
            refine TL_store rfl rfl rfl rfl rfl rfl ?_
            refine TL_nil ?_
            refine T_ret ?_
            have hch : chgA s m := by unfold chgA; rw [hg]; simp only [ne_eq, Option.some.injEq, hkey]; simp_all
            have hj : judgeV s m = .agg #[.string (strOfNums (outB (wMsg m ([], false)))), .bool true, .bool false] := by unfold judgeV recA; rw [if_pos ⟨hm, hn, hch⟩, decide_eq_true hm, decide_eq_false (fun h => hn h.2)]
            rw [hj]
            refine RetQ.gives (ac_close b s hi) ?_
            exact RetG_1 (.inl rfl) rfl (ResV.agg rfl rfl) GivesTo.g (⟨rfl, rfl⟩)
      · refine RD_leaf _ [0, 1, 3, 0, 8, 24, 128, 0, 199, 511] [] [(0, true), (1, true), (2, true), (3, true), (4, true), (5, true), (7, false), (6, false), (8, false), (9, false)] (by decide +kernel) (Gives.refl _) ?_
        refine TF_y rfl rfl (Y_field_addr rfl) ?_
        refine TF_y rfl rfl (Y_field_addr rfl) ?_
        refine TF_y rfl rfl (Y_load_agg rfl rfl) ?_
        refine TF_y rfl rfl (Y_field_addr rfl) ?_
        refine TF_y rfl rfl (Y_field_addr rfl) ?_
        refine TF_y rfl rfl (Y_load_agg rfl rfl) ?_
        refine TF_anchor rfl ?_
        refine TL_alloc rfl rfl ?_
        intro b12
        refine TF_end GivesTo.g ?_
        refine TF_anchor rfl ?_
        refine TL_alloc rfl rfl ?_
        intro b11
        refine TF_end GivesTo.g ?_
        refine TF_anchor rfl ?_
        refine TL_store rfl rfl rfl rfl rfl rfl ?_
        refine TF_end GivesTo.g ?_
        refine TF_anchor rfl ?_
        refine TL_store rfl rfl rfl rfl rfl rfl ?_
        refine TF_end GivesTo.g ?_
        refine TF_nil ?_
        refine thenS_normal ?_
        refine T_region ?_
        refine TL_both 45 141 (u.bal = m.bal ∧ u.en = m.en) ?_ ?_
        · refine TL_y rfl rfl (Y_move rfl) ?_
          refine TL_y rfl rfl (Y_move rfl) ?_
          refine TL_grun rfl rfl ?_
          refine TL_y rfl rfl (Y_field_addr rfl) ?_
          refine TL_grun rfl rfl ?_
          refine TL_y rfl rfl (Y_load_agg rfl rfl) ?_
          refine TL_grun rfl rfl ?_
          refine TL_y rfl rfl (Y_field_addr rfl) ?_
          refine TL_grun rfl rfl ?_
          refine TL_y rfl rfl (Y_load_agg rfl rfl) ?_
          refine TL_grun rfl rfl ?_
          refine TL_y rfl rfl (Y_eq_bal rfl rfl) ?_
          refine TL_y rfl rfl (Y_pick_t rfl rfl) ?_
          refine TL_y rfl rfl (Y_move rfl) ?_
          refine TL_splitd 105 rfl (fun h105 => ?_) (fun h105 => ?_)
          · refine TL_grun rfl rfl ?_
            refine TL_y rfl rfl (Y_field_addr rfl) ?_
            refine TL_grun rfl rfl ?_
            refine TL_y rfl rfl (Y_field_addr rfl) ?_
            refine TL_grun rfl rfl ?_
            refine TL_y rfl rfl (Y_load rfl rfl) ?_
            refine TL_grun rfl rfl ?_
            refine TL_y rfl rfl (Y_field_addr rfl) ?_
            refine TL_grun rfl rfl ?_
            refine TL_y rfl rfl (Y_field_addr rfl) ?_
            refine TL_grun rfl rfl ?_
            refine TL_y rfl rfl (Y_load rfl rfl) ?_
            refine TL_grun rfl rfl ?_
            refine TL_y rfl rfl (Y_equal rfl rfl (EqIs.bool)) ?_
            refine TL_name 112 (v' := .bool (decide (u.en.noop = m.en.noop))) rfl (by cases u.en.noop <;> cases m.en.noop <;> rfl) ?_
            refine TL_y rfl rfl (Y_pick_t rfl rfl) ?_
            refine TL_y rfl rfl (Y_move rfl) ?_
            refine TL_splitd 114 rfl (fun h114 => ?_) (fun h114 => ?_)
            · refine TL_grun rfl rfl ?_
              refine TL_y rfl rfl (Y_field_addr rfl) ?_
              refine TL_grun rfl rfl ?_
              refine TL_y rfl rfl (Y_load rfl rfl) ?_
              refine TL_grun rfl rfl ?_
              refine TL_y rfl rfl (Y_field_addr rfl) ?_
              refine TL_grun rfl rfl ?_
              refine TL_y rfl rfl (Y_load rfl rfl) ?_
              refine TL_grun rfl rfl ?_
              refine TL_y rfl rfl (Y_str_eq rfl rfl) ?_
              refine TL_y rfl rfl (Y_pick_t rfl rfl) ?_
              refine TL_y rfl rfl (Y_move rfl) ?_
              refine TL_splitd 121 rfl (fun h121 => ?_) (fun h121 => ?_)
              · refine TL_grun rfl rfl ?_
                refine TL_y rfl rfl (Y_field_addr rfl) ?_
                refine TL_grun rfl rfl ?_
                refine TL_y rfl rfl (Y_load rfl rfl) ?_
                refine TL_grun rfl rfl ?_
                refine TL_y rfl rfl (Y_field_addr rfl) ?_
                refine TL_grun rfl rfl ?_
                refine TL_y rfl rfl (Y_load rfl rfl) ?_
                refine TL_grun rfl rfl ?_
                refine TL_y rfl rfl (Y_str_eq rfl rfl) ?_
                refine TL_y rfl rfl (Y_pick_t rfl rfl) ?_
                refine TL_y rfl rfl (Y_move rfl) ?_
                refine TL_splitd 128 rfl (fun h128 => ?_) (fun h128 => ?_)
                · refine TL_grun rfl rfl ?_
                  refine TL_y rfl rfl (Y_field_addr rfl) ?_
                  refine TL_grun rfl rfl ?_
                  refine TL_y rfl rfl (Y_load rfl rfl) ?_
                  refine TL_grun rfl rfl ?_
                  refine TL_y rfl rfl (Y_field_addr rfl) ?_
                  refine TL_grun rfl rfl ?_
                  refine TL_y rfl rfl (Y_load rfl rfl) ?_
                  refine TL_grun rfl rfl ?_
                  refine TL_y rfl rfl (Y_eq rfl rfl) ?_
                  refine TL_y rfl rfl (Y_pick_t rfl rfl) ?_
                  refine TL_y rfl rfl (Y_move rfl) ?_
                  refine TL_splitd 135 rfl (fun h135 => ?_) (fun h135 => ?_)
                  · refine TL_grun rfl rfl ?_
                    refine TL_y rfl rfl (Y_field_addr rfl) ?_
                    refine TL_grun rfl rfl ?_
                    refine TL_y rfl rfl (Y_load rfl rfl) ?_
                    refine TL_grun rfl rfl ?_
                    refine TL_y rfl rfl (Y_field_addr rfl) ?_
                    refine TL_grun rfl rfl ?_
                    refine TL_y rfl rfl (Y_load rfl rfl) ?_
                    refine TL_grun rfl rfl ?_
                    refine TL_call rfl rfl (equalInts_spec sln (SlN.of_gives GivesTo.g hk.cut.n)) ?_
                    rintro _ _ ⟨rfl, rfl⟩
                    refine TL_y rfl rfl (Y_pick_t rfl rfl) ?_
                    refine TL_chain_end rfl ?_ (by repeat (first | exact sub_refl | refine sub_ext rfl ?_)) GivesTo.g
                    exact congrArg Value.bool (decide_eq_decide.2 (by rw [en_eq]; simp_all))
                  · refine TL_gskip rfl rfl rfl rfl ?_
                    refine TL_gskip rfl rfl rfl rfl ?_
                    refine TL_gskip rfl rfl rfl rfl ?_
                    refine TL_gskip rfl rfl rfl rfl ?_
                    refine TL_gskip rfl rfl rfl rfl ?_
                    refine TL_y rfl rfl (Y_pick_f rfl rfl) ?_
                    refine TL_chain_end rfl ?_ (by repeat (first | exact sub_refl | refine sub_ext rfl ?_)) GivesTo.g
                    exact congrArg Value.bool (decide_eq_false (by rw [en_eq]; simp_all)).symm
                · refine TL_gskip rfl rfl rfl rfl ?_
                  refine TL_gskip rfl rfl rfl rfl ?_
                  refine TL_gskip rfl rfl rfl rfl ?_
                  refine TL_gskip rfl rfl rfl rfl ?_
                  refine TL_gskip rfl rfl rfl rfl ?_
                  refine TL_y rfl rfl (Y_pick_f rfl rfl) ?_
                  refine TL_y rfl rfl (Y_move rfl) ?_
                  refine TL_gskip rfl rfl rfl rfl ?_
                  refine TL_gskip rfl rfl rfl rfl ?_
                  refine TL_gskip rfl rfl rfl rfl ?_
                  refine TL_gskip rfl rfl rfl rfl ?_
                  refine TL_gskip rfl rfl rfl rfl ?_
                  refine TL_y rfl rfl (Y_pick_f rfl rfl) ?_
                  refine TL_chain_end rfl ?_ (by repeat (first | exact sub_refl | refine sub_ext rfl ?_)) GivesTo.g
                  exact congrArg Value.bool (decide_eq_false (by rw [en_eq]; simp_all)).symm
              · refine TL_gskip rfl rfl rfl rfl ?_
                refine TL_gskip rfl rfl rfl rfl ?_
                refine TL_gskip rfl rfl rfl rfl ?_
                refine TL_gskip rfl rfl rfl rfl ?_
                refine TL_gskip rfl rfl rfl rfl ?_
                refine TL_y rfl rfl (Y_pick_f rfl rfl) ?_
                refine TL_y rfl rfl (Y_move rfl) ?_
                refine TL_gskip rfl rfl rfl rfl ?_
                refine TL_gskip rfl rfl rfl rfl ?_
                refine TL_gskip rfl rfl rfl rfl ?_
                refine TL_gskip rfl rfl rfl rfl ?_
                refine TL_gskip rfl rfl rfl rfl ?_
                refine TL_y rfl rfl (Y_pick_f rfl rfl) ?_
                refine TL_y rfl rfl (Y_move rfl) ?_
                refine TL_gskip rfl rfl rfl rfl ?_
                refine TL_gskip rfl rfl rfl rfl ?_
                refine TL_gskip rfl rfl rfl rfl ?_
                refine TL_gskip rfl rfl rfl rfl ?_
                refine TL_gskip rfl rfl rfl rfl ?_
                refine TL_y rfl rfl (Y_pick_f rfl rfl) ?_
                refine TL_chain_end rfl ?_ (by repeat (first | exact sub_refl | refine sub_ext rfl ?_)) GivesTo.g
                exact congrArg Value.bool (decide_eq_false (by rw [en_eq]; simp_all)).symm
            · refine TL_gskip rfl rfl rfl rfl ?_
              refine TL_gskip rfl rfl rfl rfl ?_
              refine TL_gskip rfl rfl rfl rfl ?_
              refine TL_gskip rfl rfl rfl rfl ?_
              refine TL_gskip rfl rfl rfl rfl ?_
              refine TL_y rfl rfl (Y_pick_f rfl rfl) ?_
              refine TL_y rfl rfl (Y_move rfl) ?_
              refine TL_gskip rfl rfl rfl rfl ?_
              refine TL_gskip rfl rfl rfl rfl ?_
              refine TL_gskip rfl rfl rfl rfl ?_
              refine TL_gskip rfl rfl rfl rfl ?_
              refine TL_gskip rfl rfl rfl rfl ?_
              refine TL_y rfl rfl (Y_pick_f rfl rfl) ?_
              refine TL_y rfl rfl (Y_move rfl) ?_
              refine TL_gskip rfl rfl rfl rfl ?_
              refine TL_gskip rfl rfl rfl rfl ?_
              refine TL_gskip rfl rfl rfl rfl ?_
              refine TL_gskip rfl rfl rfl rfl ?_
              refine TL_gskip rfl rfl rfl rfl ?_
              refine TL_y rfl rfl (Y_pick_f rfl rfl) ?_
              refine TL_y rfl rfl (Y_move rfl) ?_
              refine TL_gskip rfl rfl rfl rfl ?_
              refine TL_gskip rfl rfl rfl rfl ?_
              refine TL_gskip rfl rfl rfl rfl ?_
              refine TL_gskip rfl rfl rfl rfl ?_
              refine TL_gskip rfl rfl rfl rfl ?_
              refine TL_y rfl rfl (Y_pick_f rfl rfl) ?_
              refine TL_chain_end rfl ?_ (by repeat (first | exact sub_refl | refine sub_ext rfl ?_)) GivesTo.g
              exact congrArg Value.bool (decide_eq_false (by rw [en_eq]; simp_all)).symm
          · refine TL_gskip rfl rfl rfl rfl ?_
            refine TL_gskip rfl rfl rfl rfl ?_
            refine TL_gskip rfl rfl rfl rfl ?_
            refine TL_gskip rfl rfl rfl rfl ?_
            refine TL_gskip rfl rfl rfl rfl ?_
            refine TL_gskip rfl rfl rfl rfl ?_
            refine TL_gskip rfl rfl rfl rfl ?_
            refine TL_y rfl rfl (Y_pick_f rfl rfl) ?_
            refine TL_y rfl rfl (Y_move rfl) ?_
            refine TL_gskip rfl rfl rfl rfl ?_
            refine TL_gskip rfl rfl rfl rfl ?_
            refine TL_gskip rfl rfl rfl rfl ?_
            refine TL_gskip rfl rfl rfl rfl ?_
            refine TL_gskip rfl rfl rfl rfl ?_
            refine TL_y rfl rfl (Y_pick_f rfl rfl) ?_
            refine TL_y rfl rfl (Y_move rfl) ?_
            refine TL_gskip rfl rfl rfl rfl ?_
            refine TL_gskip rfl rfl rfl rfl ?_
            refine TL_gskip rfl rfl rfl rfl ?_
            refine TL_gskip rfl rfl rfl rfl ?_
            refine TL_gskip rfl rfl rfl rfl ?_
            refine TL_y rfl rfl (Y_pick_f rfl rfl) ?_
            refine TL_y rfl rfl (Y_move rfl) ?_
            refine TL_gskip rfl rfl rfl rfl ?_
            refine TL_gskip rfl rfl rfl rfl ?_
            refine TL_gskip rfl rfl rfl rfl ?_
            refine TL_gskip rfl rfl rfl rfl ?_
            refine TL_gskip rfl rfl rfl rfl ?_
            refine TL_y rfl rfl (Y_pick_f rfl rfl) ?_
            refine TL_y rfl rfl (Y_move rfl) ?_
            refine TL_gskip rfl rfl rfl rfl ?_
            refine TL_gskip rfl rfl rfl rfl ?_
            refine TL_gskip rfl rfl rfl rfl ?_
            refine TL_gskip rfl rfl rfl rfl ?_
            refine TL_gskip rfl rfl rfl rfl ?_
            refine TL_y rfl rfl (Y_pick_f rfl rfl) ?_
            refine TL_chain_end rfl ?_ (by repeat (first | exact sub_refl | refine sub_ext rfl ?_)) GivesTo.g
            exact congrArg Value.bool (decide_eq_false (by rw [en_eq]; simp_all)).symm
        refine TL_y rfl rfl (Y_assign rfl) ?_
        refine TL_nil ?_
        refine T_region_last ?_
        refine TL_y rfl rfl (Y_move rfl) ?_
        refine TL_y rfl rfl (Y_move rfl) ?_
        refine TL_splitd 143 rfl (fun h143 => ?_) (fun h143 => ?_)
        · refine TL_gskip rfl rfl rfl rfl ?_
          refine TL_gskip rfl rfl rfl rfl ?_
          refine TL_y rfl rfl (Y_pick_t rfl rfl) ?_
          refine TL_y rfl rfl (Y_assign rfl) ?_
          refine TL_nil ?_
          refine thenS_normal ?_
          refine T_seq ?_
          refine T_region ?_
          refine TL_y rfl rfl (Y_move rfl) ?_
          refine TL_y rfl rfl (Y_not_t rfl) ?_
          refine TL_nil ?_
          refine T_cond_false rfl ?_
          refine T_skip ?_
          refine thenS_normal ?_
          refine T_region ?_
          refine TL_y rfl rfl (Y_move rfl) ?_
          refine TL_y rfl rfl (Y_bytes_strN rfl sln) ?_
          refine TL_y rfl rfl (Y_build rfl rfl) ?_
          refine TL_store rfl rfl rfl rfl rfl rfl ?_
          refine TL_nil ?_
          refine T_ret ?_
          have hch : chgA s m := by unfold chgA; rw [hg]; simp only [ne_eq, Option.some.injEq, hkey]; simp_all
          have hj : judgeV s m = .agg #[.string (strOfNums (outB (wMsg m ([], false)))), .bool true, .bool false] := by unfold judgeV recA; rw [if_pos ⟨hm, hn, hch⟩, decide_eq_true hm, decide_eq_false (fun h => hn h.2)]
          rw [hj]
          refine RetQ.gives (ac_close b s hi) ?_
          exact RetG_1 (.inl rfl) rfl (ResV.agg rfl rfl) GivesTo.g (⟨rfl, rfl⟩)
        · refine TL_grun rfl rfl ?_
          refine TL_y rfl rfl (Y_move rfl) ?_
          refine TL_grun rfl rfl ?_
          refine TL_y rfl rfl (Y_not_d rfl) ?_
          refine TL_y rfl rfl (Y_pick_f rfl rfl) ?_
          refine TL_y rfl rfl (Y_assign rfl) ?_
          refine TL_nil ?_
          refine thenS_normal ?_
          refine T_seq ?_
          refine T_region ?_
          refine TL_y rfl rfl (Y_move rfl) ?_
          refine TL_y rfl rfl (Y_not_d rfl) ?_
          refine TL_nil ?_
          refine T_if rfl (fun h148 => ?_) (fun h148 => ?_)
          · refine T_region_last ?_
            refine TL_y rfl rfl (Y_assign rfl) ?_
            refine TL_nil ?_
            refine thenS_normal ?_
            refine T_region ?_
            refine TL_y rfl rfl (Y_move rfl) ?_
            refine TL_name 149 (v' := .slice none ([] : List Int).length 0) rfl (rfl) ?_
            refine TL_y rfl rfl (Y_bytes_strN (A := none) (c := 0) (xs := []) rfl .nil) ?_
            refine TL_y rfl rfl (Y_build rfl rfl) ?_
            refine TL_store rfl rfl rfl rfl rfl rfl ?_
            refine TL_nil ?_
            refine T_ret ?_
            have hch : ¬ chgA s m := by unfold chgA; rw [hg]; simp only [ne_eq, Option.some.injEq, hkey]; simp_all
            have hj : judgeV s m = .agg #[.string (strOfNums []), .bool true, .bool false] := by unfold judgeV recA; rw [if_neg (fun h => hch h.2.2), decide_eq_true hm, decide_eq_false (fun h => hn h.2)]; rfl
            rw [hj]
            refine RetQ.gives (ac_close b s hi) ?_
            exact RetG_1 (.inl rfl) rfl (ResV.agg rfl rfl) GivesTo.g (⟨rfl, rfl⟩)
          · refine T_skip ?_
            refine thenS_normal ?_
            refine T_region ?_
            refine TL_y rfl rfl (Y_move rfl) ?_
            refine TL_y rfl rfl (Y_bytes_strN rfl sln) ?_
            refine TL_y rfl rfl (Y_build rfl rfl) ?_
            refine TL_store rfl rfl rfl rfl rfl rfl ?_
            refine TL_nil ?_
            refine T_ret ?_
            have hch : chgA s m := by unfold chgA; rw [hg]; simp only [ne_eq, Option.some.injEq, hkey]; simp_all
            have hj : judgeV s m = .agg #[.string (strOfNums (outB (wMsg m ([], false)))), .bool true, .bool false] := by unfold judgeV recA; rw [if_pos ⟨hm, hn, hch⟩, decide_eq_true hm, decide_eq_false (fun h => hn h.2)]
            rw [hj]
            refine RetQ.gives (ac_close b s hi) ?_
            exact RetG_1 (.inl rfl) rfl (ResV.agg rfl rfl) GivesTo.g (⟨rfl, rfl⟩)
theorem acJudge_spec {L : List HP} {b : Nat} {s : AccD} (m : MsgD) (p : MsgP) (hx : MsgOk m) (hk : MsgK L m p) (hc : cMsg m ≤ 140737488355328) : Fn Try.prog 62 #[.pointer (some ⟨b, 0, none⟩), .agg (List.toArray (msgC m p))] (ac b s :: L) (fun v L' => v = judgeV s m ∧ L' = ac b s :: L) := by
  by_cases hm : mineA s m
  · rcases hm.2.2 with h1 | h3
    · exact acJudge_prep m p hx hk hc hm h1
    · rcases hg : getM (vmap s.V) m.slot with _ | u
      · exact acJudge_accN m p hx hk hc hm h3 hg
      · exact acJudge_accS m p hx hk hc hm h3 hg
  · exact acJudge_bad m p hx hk hc hm
end Go.SL
set_option linter.unusedVariables false
set_option linter.unusedSimpArgs false
namespace Go.SL
open Go Go.Proofs
end Go.SL
set_option linter.unusedVariables false
set_option linter.unusedSimpArgs false
namespace Go.SL
open Go Go.Proofs
structure RS where
  b : List Int
  n : Nat
  bad : Bool
/-- A part is read: what it tells of the bytes. -/
structure RdR {α : Type} (ok iv : α → Prop) (b : α → List Int) (s : RS) (x : α) (s' : RS) : Prop where
  snd : s'.bad = false → s.bad = false ∧ ok x ∧ s.b = b x ++ s'.b
  cmp : ∀ y r, s.bad = false → ok y → s.b = b y ++ r → s'.bad = false
  tot : s'.n + s'.b.length = s.n + s.b.length
  iv : iv x
section
variable {α β : Type} {ok iv : α → Prop} {b : α → List Int} {s s1 s2 : RS} {x : α}
theorem RdR.seq {ok2 iv2 : β → Prop} {b2 : β → List Int} {y : β} (h1 : RdR ok iv b s x s1) (hp : PF ok b) (h2 : RdR ok2 iv2 b2 s1 y s2) : RdR (fun p : α × β => ok p.1 ∧ ok2 p.2) (fun p => iv p.1 ∧ iv2 p.2) (fun p => b p.1 ++ b2 p.2) s (x, y) s2 := by
  refine ⟨fun h => ?_, fun y r hs hy hb => ?_, by rw [h2.tot, h1.tot], h1.iv, h2.iv⟩
  · obtain ⟨a1, a2, a3⟩ := h2.snd h
    obtain ⟨c1, c2, c3⟩ := h1.snd a1
    exact ⟨c1, ⟨c2, a2⟩, by rw [c3, a3, List.append_assoc]⟩
  · rw [List.append_assoc] at hb
    have g1 := h1.cmp _ _ hs hy.1 hb
    obtain ⟨c1, c2, c3⟩ := h1.snd g1
    obtain ⟨_, e⟩ := hp _ _ _ _ c2 hy.1 (c3.symm.trans hb)
    exact h2.cmp _ _ g1 hy.2 e
theorem RdR.map {ok2 iv2 : β → Prop} {b2 : β → List Int} (f : α → β) (g : β → α) (h : RdR ok iv b s x s1) (hg : g (f x) = x) (hok : ∀ y, ok2 y ↔ ok (g y)) (hb : ∀ y, b2 y = b (g y)) (hiv : iv x → iv2 (f x)) : RdR ok2 iv2 b2 s (f x) s1 := by
  refine ⟨fun k => ?_, fun y r hs hy he => h.cmp (g y) r hs ((hok y).1 hy) (by rw [he, hb]), h.tot, hiv h.iv⟩
  obtain ⟨a1, a2, a3⟩ := h.snd k
  exact ⟨a1, (hok _).2 (by rw [hg]; exact a2), by rw [hb, hg]; exact a3⟩
theorem RdR.bytes (h : RdR ok iv b s x s1) (hb : ∀ y, b y = b y) : RdR ok iv b s x s1 := h
end

/-! ### A number, a text are taken -/
def TakeU (s : RS) (x : Nat) (s' : RS) : Prop := (s.bad = false ∧ ∃ k, RdU s.b x k 0 ∧ s' = ⟨s.b.drop k, s.n + k, false⟩) ∨ (s' = ⟨s.b, s.n, true⟩ ∧ x = 0 ∧ (s.bad = true ∨ RdU s.b 0 0 10))
def TakeT (most : Int) (s : RS) (x : ByteArray) (s' : RS) : Prop := (s.bad = false ∧ ∃ k, RdT s.b most x k 0 ∧ s' = ⟨s.b.drop k, s.n + k, false⟩) ∨ (s' = ⟨s.b, s.n, true⟩ ∧ x = ⟨#[]⟩ ∧ (s.bad = true ∨ RdT s.b most ⟨#[]⟩ 0 10))
def txtOf (most : Int) (s : ByteArray) : Prop := (s.size : Int) ≤ most
/-! ### The reader in memory -/
abbrev rdF (b : Nat) (s : RS) (p : Option Addr × Nat) : List HP := [cells b [.slice p.1 s.b.length p.2, .int .i64 (s.n : Int), .bool s.bad] 170, sl (intR .u8) p.1 p.2 s.b]
def rdr (b : Nat) (s : RS) : HP := exH (rdF b s)
def rdN (b : Nat) (n : Int) (bad : Bool) : HP := exH fun v0 : Value => [cells b [v0, .int .i64 n, .bool bad] 170]
section
variable {r : Option Nat} {n : Nat} {P : Program} {ops : Array Oper} {rest : List Oper} {K : St → Prop} {Q : Exit → St → Prop} {D : List Deferred} {E : Env} {L L' : List HP} {b : Nat} {s : RS} {ty : TypeId}
instance findHP_rdN {v0 : Value} {m : Int} {bad : Bool} {L1 : List HP} [h : FindC L b [v0, .int .i64 m, .bool bad] 170 L1] : FindHP L (rdN b m bad) L1 := ⟨h.g.trans (exH_close (f := fun v0 : Value => [cells b [v0, .int .i64 m, .bool bad] 170]) v0)⟩
end
instance findK_rdr {L : List HP} {b : Nat} {s : RS} : FindK (rdr b s :: L) b (rdr b s) L := ⟨Gives.refl _⟩
end Go.SL
set_option linter.unusedVariables false
set_option linter.unusedSimpArgs false
namespace Go.SL
open Go Go.Proofs
end Go.SL
set_option linter.unusedVariables false
set_option linter.unusedSimpArgs false
namespace Go.SL
open Go Go.Proofs
/-! ### Lists -/
structure LI {α : Type} (ok iv : α → Prop) (b : α → List Int) (n : Nat) (s : RS) (xs : List α) (s' : RS) : Prop where
  snd : s'.bad = false → s.bad = false ∧ (∀ x ∈ xs, ok x) ∧ s.b = bAll b xs ++ s'.b
  cmp : ∀ ys r, s.bad = false → (∀ y ∈ ys, ok y) → ys.length = n → s.b = bAll b ys ++ r → s'.bad = false ∧ s'.b = bAll b (ys.drop xs.length) ++ r
  tot : s'.n + s'.b.length = s.n + s.b.length
  iv : ∀ x ∈ xs, iv x
theorem bAll_cons {α : Type} (b : α → List Int) (x : α) (l : List α) : bAll b (x :: l) = b x ++ bAll b l := by simp [bAll]
theorem bAll_snoc {α : Type} (b : α → List Int) (l : List α) (x : α) : bAll b (l ++ [x]) = bAll b l ++ b x := by simp [bAll]
section
variable {α : Type} {ok iv : α → Prop} {b : α → List Int} {n : Nat} {s s0 st st' : RS} {xs : List α} {x : α}
theorem LI.zero : LI ok iv b n s [] s := ⟨fun h => ⟨h, by simp, by simp [bAll]⟩, fun ys r h _ _ e => ⟨h, by simpa using e⟩, rfl, by simp⟩
theorem LI.next (hp : PF ok b) (h : LI ok iv b n s xs st) (hl : xs.length < n) (hx : RdR ok iv b st x st') : LI ok iv b n s (xs ++ [x]) st' := by
  refine ⟨fun k => ?_, fun ys r hs hy hn he => ?_, by rw [hx.tot, h.tot], fun y hy => ?_⟩
  · obtain ⟨a1, a2, a3⟩ := hx.snd k
    obtain ⟨c1, c2, c3⟩ := h.snd a1
    refine ⟨c1, fun y hy => ?_, by rw [c3, a3, bAll_snoc, List.append_assoc]⟩
    rcases List.mem_append.1 hy with hy | hy
    · exact c2 y hy
    · simp at hy; subst hy; exact a2
  · obtain ⟨g1, g2⟩ := h.cmp ys r hs hy hn he
    have hlt : xs.length < ys.length := by omega
    rw [List.drop_eq_getElem_cons hlt, bAll_cons, List.append_assoc] at g2
    have hyo := hy _ (List.getElem_mem hlt)
    have k := hx.cmp _ _ g1 hyo g2
    obtain ⟨a1, a2, a3⟩ := hx.snd k
    obtain ⟨_, e⟩ := hp _ _ _ _ a2 hyo (a3.symm.trans g2)
    exact ⟨k, by rw [e]; simp⟩
  · rcases List.mem_append.1 hy with hy | hy
    · exact h.iv y hy
    · simp at hy; subst hy; exact hx.iv
def okL (ok : α → Prop) (most : Nat) (v : List α) : Prop := v.length ≤ most ∧ ∀ x ∈ v, ok x
def bList (b : α → List Int) (v : List α) : List Int := bNum (v.length : Int) ++ bAll b v
theorem LI.done {most : Nat} (hm : most ≤ 4096) (h0 : RdR (rNum (most : Int)) (rNum (most : Int)) bNum s0 (n : Int) s) (h : LI ok iv b n s xs st) (hl : xs.length ≤ n) (hd : xs.length = n ∨ st.bad = true) : RdR (okL ok most) (okL iv most) (bList b) s0 xs st := by
  have hn := h0.iv
  unfold rNum at hn
  refine ⟨fun k => ?_, fun ys r hs hy he => ?_, by rw [h.tot, h0.tot], by omega, h.iv⟩
  · obtain ⟨a1, a2, a3⟩ := h.snd k
    obtain ⟨c1, c2, c3⟩ := h0.snd a1
    have hx : xs.length = n := hd.resolve_right (by rw [k]; simp)
    exact ⟨c1, ⟨by omega, a2⟩, by rw [c3, a3, bList, List.append_assoc, hx]⟩
  · have hy1 := hy.1
    unfold bList at he
    rw [List.append_assoc] at he
    have hr : rNum (most : Int) (ys.length : Int) := by unfold rNum; omega
    have g1 := h0.cmp _ _ hs hr he
    obtain ⟨c1, c2, c3⟩ := h0.snd g1
    obtain ⟨e1, e2⟩ := pf_num (most := (most : Int)) (by omega) _ _ _ _ c2 hr (c3.symm.trans he)
    exact (h.cmp ys r g1 hy.2 (by omega) e2).1
end
end Go.SL
set_option linter.unusedVariables false
set_option linter.unusedSimpArgs false
namespace Go.SL
open Go Go.Proofs
structure LsS (α : Type) where
  xs : List α
  s : RS
  A : Option Addr
  c : Nat
abbrev capC (bx b : Nat) : HP := cells bx [.pointer (some ⟨b, 0, none⟩)] 168
end Go.SL
set_option linter.unusedVariables false
set_option linter.unusedSimpArgs false
namespace Go.SL
open Go Go.Proofs
def entryIv (e : EntryD) : Prop := orderOk' e.order
end Go.SL
set_option linter.unusedVariables false
set_option linter.unusedSimpArgs false
namespace Go.SL
open Go Go.Proofs
abbrev mL (m : MsgD) (p : MsgP) (L : List HP) : List HP := sl (intR .i64) p.cut.1 p.cut.2 m.en.order.cut :: sl votedR p.voted.1 p.voted.2 m.voted :: sl (intR .i64) p.seen.1 p.seen.2 m.seen :: sl eventR p.events.1 p.events.2 m.events :: L
abbrev msg0 : MsgD := ⟨0, 0, 0, (0, 0), 0, ⟨false, ⟨⟨#[]⟩, ⟨#[]⟩, 0, []⟩⟩, [], [], [], 0⟩
def rs0 (bs : List Int) : RS := ⟨bs, 0, false⟩
/-- What reading a whole message comes to. -/
def MsgRes (bs : List Int) (m : MsgD) (e : Int) : Prop := ∃ x s', RdR rMsg MsgOk bMsg (rs0 bs) x s' ∧ ((e = 0 ∧ m = x ∧ s'.bad = false ∧ s'.b = [] ∧ bs.length ≤ 65536) ∨ (e = 10 ∧ (s'.bad = true ∨ s'.b ≠ [] ∨ 65536 < bs.length)))
end Go.SL
set_option linter.unusedVariables false
set_option linter.unusedSimpArgs false
namespace Go.SL
open Go Go.Proofs
abbrev mP0 : MsgP := ⟨(none, 0), (none, 0), (none, 0), (none, 0)⟩
theorem mL_nil {m : MsgD} {L : List HP} (h1 : m.en.order.cut = []) (h2 : m.voted = []) (h3 : m.seen = []) (h4 : m.events = []) : Gives L (mL m mP0 L) := by
  unfold mL
  rw [h1, h2, h3, h4]
  exact (slnil.lay).trans (Gives.trans (slnil.lay) (Gives.trans (slnil.lay) (slnil.lay)))
theorem acOn_bad {L : List HP} {b : Nat} {s : AccD} (m : MsgD) (p : MsgP) (hx : MsgOk m) (hk : MsgK L m p) (hc : cMsg m ≤ 140737488355328) (hm : ¬ mineA s m) : Fn Try.prog 23 #[.pointer (some ⟨b, 0, none⟩), .agg (List.toArray (msgC m p))] (ac b s :: L) (fun v L' => ∃ q, v = .tuple #[.agg (List.toArray (msgC (repA s m) q)), .string (recA s m), .bool (decide (mineA s m))] ∧ L' = mL (repA s m) q (ac b (stA s m) :: L)) := by
  have e1 : repA s m = ⟨0, 0, 0, (0, 0), 0, ⟨false, ⟨⟨#[]⟩, ⟨#[]⟩, 0, []⟩⟩, [], [], [], 0⟩ := by unfold repA; rw [if_neg hm]
  have e2 : recA s m = ⟨#[]⟩ := by unfold recA; rw [if_neg (fun h => hm h.1)]
  have e3 : stA s m = s := by unfold stA; rw [if_neg (fun h => hm h.1)]
  rw [e1, e2, e3, decide_eq_false hm]
  refine Fn_enter Try.func23 rfl rfl rfl rfl ?_
  refine T_region ?_
  refine TL_box rfl rfl rfl ?_
  intro b3
  refine TL_alloc rfl rfl ?_
  intro b4
  refine TL_y rfl rfl (Y_assign rfl) ?_
  refine TL_y rfl rfl (Y_assign rfl) ?_
  refine TL_nil ?_
  refine T_region ?_
  refine TL_y rfl rfl (Y_move rfl) ?_
  refine TL_y rfl rfl (Y_load_agg rfl rfl) ?_
  refine TL_pullk b ?_
  refine TL_call rfl rfl (acJudge_spec m p hx hk.tail.tail hc) ?_
  rintro _ _ ⟨rfl, rfl⟩
  refine TL_name 11 (v' := .agg #[.string (recA s m), .bool (decide (mineA s m)), .bool (decide (mineA s m ∧ nackA s m))]) rfl (rfl) ?_
  refine TL_alloc rfl rfl ?_
  intro b7
  refine TL_store rfl rfl rfl rfl rfl rfl ?_
  refine TL_nil ?_
  refine T_seq ?_
  refine T_region ?_
  refine TL_y rfl rfl (Y_field_addr rfl) ?_
  refine TL_y rfl rfl (Y_load rfl rfl) ?_
  refine TL_name 13 (v' := .bool false) rfl (congrArg Value.bool (decide_eq_false hm)) ?_
  refine TL_y rfl rfl (Y_not_f rfl) ?_
  refine TL_nil ?_
  refine T_cond_true rfl ?_
  refine T_region ?_
  refine TL_y rfl rfl (Y_build rfl rfl) ?_
  refine TL_store rfl rfl rfl rfl rfl rfl ?_
  refine TL_y rfl rfl (Y_assign rfl) ?_
  refine TL_y rfl rfl (Y_assign rfl) ?_
  refine TL_nil ?_
  refine T_ret ?_
  refine thenS_ret ?_
  refine RetQ.gives (mL_nil (m := ⟨0, 0, 0, (0, 0), 0, ⟨false, ⟨⟨#[]⟩, ⟨#[]⟩, 0, []⟩⟩, [], [], [], 0⟩) rfl rfl rfl rfl) ?_
  exact RetG_3 (.inl rfl) rfl (ResV.agg rfl rfl) (ResV.tmp rfl) (ResV.tmp rfl) GivesTo.g (⟨mP0, rfl, rfl⟩)
end Go.SL
set_option linter.unusedVariables false
set_option linter.unusedSimpArgs false
namespace Go.SL
open Go Go.Proofs
theorem mL_voted {m : MsgD} {L : List HP} {A : Option Addr} {c : Nat} (h1 : m.en.order.cut = []) (h3 : m.seen = []) (h4 : m.events = []) (hk : SlK L votedR A c m.voted) : Gives L (mL m ⟨(none, 0), (A, c), (none, 0), (none, 0)⟩ L) := by
  unfold mL
  rw [h1, h3, h4]
  exact (slnil.lay).trans (Gives.trans (slnil.lay) (Gives.trans (SlK.lay hk.tail.tail) (slnil.lay)))
theorem acOn_nack {L : List HP} {b : Nat} {s : AccD} (m : MsgD) (p : MsgP) (hx : MsgOk m) (hk : MsgK L m p) (hc : cMsg m ≤ 140737488355328) (hm : mineA s m) (hn : nackA s m) : Fn Try.prog 23 #[.pointer (some ⟨b, 0, none⟩), .agg (List.toArray (msgC m p))] (ac b s :: L) (fun v L' => ∃ q, v = .tuple #[.agg (List.toArray (msgC (repA s m) q)), .string (recA s m), .bool (decide (mineA s m))] ∧ L' = mL (repA s m) q (ac b (stA s m) :: L)) := by
  have e1 : repA s m = repM s m 5 s.prom [] := by unfold repA; rw [if_pos hm, if_pos hn]
  have e2 : recA s m = ⟨#[]⟩ := by unfold recA; rw [if_neg (fun h => h.2.1 hn)]
  have e3 : stA s m = s := by unfold stA; rw [if_neg (fun h => h.2 hn)]
  rw [e1, e2, e3, decide_eq_true hm]
  refine Fn_enter Try.func23 rfl rfl rfl rfl ?_
  refine T_region ?_
  refine TL_box rfl rfl rfl ?_
  intro b3
  refine TL_alloc rfl rfl ?_
  intro b4
  refine TL_y rfl rfl (Y_assign rfl) ?_
  refine TL_y rfl rfl (Y_assign rfl) ?_
  refine TL_nil ?_
  refine T_region ?_
  refine TL_y rfl rfl (Y_move rfl) ?_
  refine TL_y rfl rfl (Y_load_agg rfl rfl) ?_
  refine TL_pullk b ?_
  refine TL_call rfl rfl (acJudge_spec m p hx hk.tail.tail hc) ?_
  rintro _ _ ⟨rfl, rfl⟩
  refine TL_name 11 (v' := .agg #[.string (recA s m), .bool (decide (mineA s m)), .bool (decide (mineA s m ∧ nackA s m))]) rfl (rfl) ?_
  refine TL_alloc rfl rfl ?_
  intro b7
  refine TL_store rfl rfl rfl rfl rfl rfl ?_
  refine TL_nil ?_
  refine T_seq ?_
  refine T_region ?_
  refine TL_y rfl rfl (Y_field_addr rfl) ?_
  refine TL_y rfl rfl (Y_load rfl rfl) ?_
  refine TL_name 13 (v' := .bool true) rfl (congrArg Value.bool (decide_eq_true hm)) ?_
  refine TL_y rfl rfl (Y_not_t rfl) ?_
  refine TL_nil ?_
  refine T_cond_false rfl ?_
  refine T_skip ?_
  refine thenS_normal ?_
  refine T_pullk b ?_
  refine T_ac fun bt hi => ?_
  refine T_region_draw _ [0, 1, 3, 7, 0, 16, 0, 64, 192, 448, 0, 1024, 0, 8191, 0, 32767] [] [(0, true), (1, true), (2, true), (3, true), (4, true), (5, true), (6, true), (7, true), (8, true), (9, true), (10, true), (11, true), (12, true), (13, true), (14, false), (15, false)] (by kernel_rfl) (by decide +kernel) (Gives.refl _) ?_
  refine TF_y rfl rfl (Y_move rfl) ?_
  refine TF_y rfl rfl (Y_nil_check rfl) ?_
  refine TF_y rfl rfl (Y_field_addr rfl) ?_
  refine TF_y rfl rfl (Y_load rfl rfl) ?_
  refine TF_y rfl rfl (Y_field_addr rfl) ?_
  refine TF_y rfl rfl (Y_load rfl rfl) ?_
  refine TF_y rfl rfl (Y_move rfl) ?_
  refine TF_y rfl rfl (Y_nil_check rfl) ?_
  refine TF_y rfl rfl (Y_field_addr rfl) ?_
  refine TF_y rfl rfl (Y_load_agg rfl rfl) ?_
  refine TF_y rfl rfl (Y_field_addr rfl) ?_
  refine TF_y rfl rfl (Y_load rfl rfl) ?_
  refine TF_y rfl rfl (Y_build rfl rfl) ?_
  refine TF_y rfl rfl (Y_build rfl rfl) ?_
  refine TF_anchor rfl ?_
  refine TL_alloc rfl rfl ?_
  intro b8
  refine TF_end GivesTo.g ?_
  refine TF_anchor rfl ?_
  refine TL_store rfl rfl rfl rfl rfl rfl ?_
  refine TF_end GivesTo.g ?_
  refine TF_nil ?_
  refine T_seq ?_
  refine T_region ?_
  refine TL_y rfl rfl (Y_field_addr rfl) ?_
  refine TL_y rfl rfl (Y_load rfl rfl) ?_
  refine TL_name 31 (v' := .bool true) rfl (congrArg Value.bool (decide_eq_true ⟨hm, hn⟩)) ?_
  refine TL_nil ?_
  refine T_cond_true rfl ?_
  refine T_region ?_
  refine TL_y rfl rfl (Y_load_agg rfl rfl) ?_
  refine TL_store rfl rfl rfl rfl rfl rfl ?_
  refine TL_y rfl rfl (Y_assign rfl) ?_
  refine TL_y rfl rfl (Y_assign rfl) ?_
  refine TL_nil ?_
  refine T_ret ?_
  refine thenS_ret ?_
  refine RetQ.gives (ac_close b s hi) ?_
  refine RetQ.gives (mL_nil (m := repM s m 5 s.prom []) rfl rfl rfl rfl) ?_
  exact RetG_3 (.inl rfl) rfl (ResV.agg rfl rfl) (ResV.tmp rfl) (ResV.tmp rfl) GivesTo.g (⟨mP0, rfl, rfl⟩)
theorem acOn_prep {L : List HP} {b : Nat} {s : AccD} (m : MsgD) (p : MsgP) (hx : MsgOk m) (hk : MsgK L m p) (hc : cMsg m ≤ 140737488355328) (hm : mineA s m) (hn : ¬ nackA s m) (h1 : m.kind = 1) : Fn Try.prog 23 #[.pointer (some ⟨b, 0, none⟩), .agg (List.toArray (msgC m p))] (ac b s :: L) (fun v L' => ∃ q, v = .tuple #[.agg (List.toArray (msgC (repA s m) q)), .string (recA s m), .bool (decide (mineA s m))] ∧ L' = mL (repA s m) q (ac b (stA s m) :: L)) := by
  have e1 : repA s m = repM s m 2 m.bal (aboveV s.V m.slot) := by unfold repA; rw [if_pos hm, if_neg hn, if_pos h1]
  have e3 : stA s m = ⟨s.node, m.bal, s.V⟩ := by unfold stA; rw [if_pos ⟨hm, hn⟩, if_pos h1]
  have hst := fun hi : AI s => hi.step hx
  rw [e3] at hst
  rw [e1, e3, decide_eq_true hm]
  refine Fn_enter Try.func23 rfl rfl rfl rfl ?_
  refine T_region ?_
  refine TL_box rfl rfl rfl ?_
  intro b3
  refine TL_alloc rfl rfl ?_
  intro b4
  refine TL_y rfl rfl (Y_assign rfl) ?_
  refine TL_y rfl rfl (Y_assign rfl) ?_
  refine TL_nil ?_
  refine T_region ?_
  refine TL_y rfl rfl (Y_move rfl) ?_
  refine TL_y rfl rfl (Y_load_agg rfl rfl) ?_
  refine TL_pullk b ?_
  refine TL_call rfl rfl (acJudge_spec m p hx hk.tail.tail hc) ?_
  rintro _ _ ⟨rfl, rfl⟩
  refine TL_name 11 (v' := .agg #[.string (recA s m), .bool (decide (mineA s m)), .bool (decide (mineA s m ∧ nackA s m))]) rfl (rfl) ?_
  refine TL_alloc rfl rfl ?_
  intro b7
  refine TL_store rfl rfl rfl rfl rfl rfl ?_
  refine TL_nil ?_
  refine T_seq ?_
  refine T_region ?_
  refine TL_y rfl rfl (Y_field_addr rfl) ?_
  refine TL_y rfl rfl (Y_load rfl rfl) ?_
  refine TL_name 13 (v' := .bool true) rfl (congrArg Value.bool (decide_eq_true hm)) ?_
  refine TL_y rfl rfl (Y_not_t rfl) ?_
  refine TL_nil ?_
  refine T_cond_false rfl ?_
  refine T_skip ?_
  refine thenS_normal ?_
  refine T_pullk b ?_
  refine T_ac fun bt hi => ?_
  refine T_region_draw _ [0, 1, 3, 7, 0, 16, 0, 64, 192, 448, 0, 1024, 0, 8191, 0, 32767] [] [(0, true), (1, true), (2, true), (3, true), (4, true), (5, true), (6, true), (7, true), (8, true), (9, true), (10, true), (11, true), (12, true), (13, true), (14, false), (15, false)] (by kernel_rfl) (by decide +kernel) (Gives.refl _) ?_
  refine TF_y rfl rfl (Y_move rfl) ?_
  refine TF_y rfl rfl (Y_nil_check rfl) ?_
  refine TF_y rfl rfl (Y_field_addr rfl) ?_
  refine TF_y rfl rfl (Y_load rfl rfl) ?_
  refine TF_y rfl rfl (Y_field_addr rfl) ?_
  refine TF_y rfl rfl (Y_load rfl rfl) ?_
  refine TF_y rfl rfl (Y_move rfl) ?_
  refine TF_y rfl rfl (Y_nil_check rfl) ?_
  refine TF_y rfl rfl (Y_field_addr rfl) ?_
  refine TF_y rfl rfl (Y_load_agg rfl rfl) ?_
  refine TF_y rfl rfl (Y_field_addr rfl) ?_
  refine TF_y rfl rfl (Y_load rfl rfl) ?_
  refine TF_y rfl rfl (Y_build rfl rfl) ?_
  refine TF_y rfl rfl (Y_build rfl rfl) ?_
  refine TF_anchor rfl ?_
  refine TL_alloc rfl rfl ?_
  intro b8
  refine TF_end GivesTo.g ?_
  refine TF_anchor rfl ?_
  refine TL_store rfl rfl rfl rfl rfl rfl ?_
  refine TF_end GivesTo.g ?_
  refine TF_nil ?_
  refine T_seq ?_
  refine T_region ?_
  refine TL_y rfl rfl (Y_field_addr rfl) ?_
  refine TL_y rfl rfl (Y_load rfl rfl) ?_
  refine TL_name 31 (v' := .bool false) rfl (congrArg Value.bool (decide_eq_false fun h => hn h.2)) ?_
  refine TL_nil ?_
  refine T_cond_false rfl ?_
  refine T_skip ?_
  refine thenS_normal ?_
  refine T_region_draw (cells b3 (msgC m p) 44 :: []) [0, 0, 2, 0, 8, 7, 39, 103, 255, 511] [] [(0, true), (1, true), (2, true), (3, true), (4, true), (5, true), (6, true), (7, false), (8, true), (9, false)] (by kernel_rfl) (by decide +kernel) GivesTo.g ?_
  refine TF_y rfl rfl (Y_move rfl) ?_
  refine TF_y rfl rfl (Y_field_addr rfl) ?_
  refine TF_y rfl rfl (Y_load_agg rfl rfl) ?_
  refine TF_y rfl rfl (Y_field_addr rfl) ?_
  refine TF_y rfl rfl (Y_load_agg rfl rfl) ?_
  refine TF_y rfl rfl (Y_nil_check rfl) ?_
  refine TF_y rfl rfl (Y_field_addr rfl) ?_
  refine TF_anchor rfl ?_
  refine TL_store rfl rfl rfl rfl rfl rfl ?_
  refine TF_end GivesTo.g ?_
  refine TF_y rfl rfl (Y_field_addr rfl) ?_
  refine TF_anchor rfl ?_
  refine TL_store rfl rfl rfl rfl rfl rfl ?_
  refine TF_end GivesTo.g ?_
  refine TF_nil ?_
  refine T_seq ?_
  refine T_gives (ac_close (bt := bt) b ⟨s.node, m.bal, s.V⟩ (hst hi)) ?_
  refine T_region ?_
  refine TL_y rfl rfl (Y_field_addr rfl) ?_
  refine TL_y rfl rfl (Y_load rfl rfl) ?_
  refine TL_y rfl rfl (Y_eq rfl rfl) ?_
  refine TL_name 43 (v' := .bool true) rfl (congrArg Value.bool (decide_eq_true h1)) ?_
  refine TL_nil ?_
  refine T_cond_true rfl ?_
  refine T_region ?_
  refine TL_y rfl rfl (Y_move rfl) ?_
  refine TL_y rfl rfl (Y_field_addr rfl) ?_
  refine TL_y rfl rfl (Y_load rfl rfl) ?_
  refine TL_pullk b ?_
  refine TL_call rfl rfl (acAbove_spec (s := ⟨s.node, m.bal, s.V⟩) m.slot) ?_
  rintro _ _ ⟨A47, c47, rfl, rfl⟩
  refine TL_freeze_osl ?_
  refine TL_y rfl rfl (Y_field_addr rfl) ?_
  refine TL_store rfl rfl rfl rfl rfl rfl ?_
  refine TL_y rfl rfl (Y_field_addr rfl) ?_
  refine TL_store rfl rfl rfl rfl rfl rfl ?_
  refine TL_nil ?_
  refine T_region_draw (cells b8 [.int .i64 2, .int .i64 s.node, .int .i64 m.frm, .int .i64 m.bal.1, .int .i64 m.bal.2, .int .i64 m.slot, .bool true, .string ⟨#[]⟩, .string ⟨#[]⟩, .int .i64 0, .slice none 0 0, .slice A47 (aboveV s.V m.slot).length c47, .slice none 0 0, .slice none 0 0, .int .i64 0] 44 :: cells b7 [.string (recA s m), .bool (decide (mineA s m)), .bool (decide (mineA s m ∧ nackA s m))] 115 :: []) [0, 0, 2, 1, 15, 31] [] [(0, true), (1, true), (2, true), (3, false), (4, true), (5, true)] (by kernel_rfl) (by decide +kernel) GivesTo.g ?_
  refine TF_y rfl rfl (Y_load_agg rfl rfl) ?_
  refine TF_y rfl rfl (Y_field_addr rfl) ?_
  refine TF_y rfl rfl (Y_load rfl rfl) ?_
  refine TF_anchor rfl ?_
  refine TL_store rfl rfl rfl rfl rfl rfl ?_
  refine TF_end GivesTo.g ?_
  refine TF_y rfl rfl (Y_assign rfl) ?_
  refine TF_y rfl rfl (Y_assign rfl) ?_
  refine TF_nil ?_
  refine T_ret ?_
  refine thenS_ret ?_
  refine RetQ.gives (mL_voted (m := repM s m 2 m.bal (aboveV s.V m.slot)) rfl rfl rfl (slk (A := A47) (c := c47))) ?_
  exact RetG_3 (.inl rfl) rfl (ResV.agg rfl rfl) (ResV.tmp rfl) (ResV.tmp rfl) GivesTo.g (⟨⟨(none, 0), (A47, c47), (none, 0), (none, 0)⟩, rfl, rfl⟩)
theorem acOn_acc {L : List HP} {b : Nat} {s : AccD} (m : MsgD) (p : MsgP) (hx : MsgOk m) (hk : MsgK L m p) (hc : cMsg m ≤ 140737488355328) (hm : mineA s m) (hn : ¬ nackA s m) (h1 : ¬ m.kind = 1) : Fn Try.prog 23 #[.pointer (some ⟨b, 0, none⟩), .agg (List.toArray (msgC m p))] (ac b s :: L) (fun v L' => ∃ q, v = .tuple #[.agg (List.toArray (msgC (repA s m) q)), .string (recA s m), .bool (decide (mineA s m))] ∧ L' = mL (repA s m) q (ac b (stA s m) :: L)) := by
  have e1 : repA s m = repM s m 4 m.bal [] := by unfold repA; rw [if_pos hm, if_neg hn, if_neg h1]
  have e3 : stA s m = ⟨s.node, m.bal, putV s.V (newV m)⟩ := by unfold stA; rw [if_pos ⟨hm, hn⟩, if_neg h1]
  have hst := fun hi : AI s => hi.step hx
  have hvo : votedOk (newV m) := ⟨hx.slot, hx.b1, hx.b2, hx.en⟩
  rw [e3] at hst
  rw [e1, e3, decide_eq_true hm]
  refine Fn_enter Try.func23 rfl rfl rfl rfl ?_
  refine T_region ?_
  refine TL_box rfl rfl rfl ?_
  intro b3
  refine TL_alloc rfl rfl ?_
  intro b4
  refine TL_y rfl rfl (Y_assign rfl) ?_
  refine TL_y rfl rfl (Y_assign rfl) ?_
  refine TL_nil ?_
  refine T_region ?_
  refine TL_y rfl rfl (Y_move rfl) ?_
  refine TL_y rfl rfl (Y_load_agg rfl rfl) ?_
  refine TL_pullk b ?_
  refine TL_call rfl rfl (acJudge_spec m p hx hk.tail.tail hc) ?_
  rintro _ _ ⟨rfl, rfl⟩
  refine TL_name 11 (v' := .agg #[.string (recA s m), .bool (decide (mineA s m)), .bool (decide (mineA s m ∧ nackA s m))]) rfl (rfl) ?_
  refine TL_alloc rfl rfl ?_
  intro b7
  refine TL_store rfl rfl rfl rfl rfl rfl ?_
  refine TL_nil ?_
  refine T_seq ?_
  refine T_region ?_
  refine TL_y rfl rfl (Y_field_addr rfl) ?_
  refine TL_y rfl rfl (Y_load rfl rfl) ?_
  refine TL_name 13 (v' := .bool true) rfl (congrArg Value.bool (decide_eq_true hm)) ?_
  refine TL_y rfl rfl (Y_not_t rfl) ?_
  refine TL_nil ?_
  refine T_cond_false rfl ?_
  refine T_skip ?_
  refine thenS_normal ?_
  refine T_pullk b ?_
  refine T_ac fun bt hi => ?_
  refine T_region_draw _ [0, 1, 3, 7, 0, 16, 0, 64, 192, 448, 0, 1024, 0, 8191, 0, 32767] [] [(0, true), (1, true), (2, true), (3, true), (4, true), (5, true), (6, true), (7, true), (8, true), (9, true), (10, true), (11, true), (12, true), (13, true), (14, false), (15, false)] (by kernel_rfl) (by decide +kernel) (Gives.refl _) ?_
  refine TF_y rfl rfl (Y_move rfl) ?_
  refine TF_y rfl rfl (Y_nil_check rfl) ?_
  refine TF_y rfl rfl (Y_field_addr rfl) ?_
  refine TF_y rfl rfl (Y_load rfl rfl) ?_
  refine TF_y rfl rfl (Y_field_addr rfl) ?_
  refine TF_y rfl rfl (Y_load rfl rfl) ?_
  refine TF_y rfl rfl (Y_move rfl) ?_
  refine TF_y rfl rfl (Y_nil_check rfl) ?_
  refine TF_y rfl rfl (Y_field_addr rfl) ?_
  refine TF_y rfl rfl (Y_load_agg rfl rfl) ?_
  refine TF_y rfl rfl (Y_field_addr rfl) ?_
  refine TF_y rfl rfl (Y_load rfl rfl) ?_
  refine TF_y rfl rfl (Y_build rfl rfl) ?_
  refine TF_y rfl rfl (Y_build rfl rfl) ?_
  refine TF_anchor rfl ?_
  refine TL_alloc rfl rfl ?_
  intro b8
  refine TF_end GivesTo.g ?_
  refine TF_anchor rfl ?_
  refine TL_store rfl rfl rfl rfl rfl rfl ?_
  refine TF_end GivesTo.g ?_
  refine TF_nil ?_
  refine T_seq ?_
  refine T_region ?_
  refine TL_y rfl rfl (Y_field_addr rfl) ?_
  refine TL_y rfl rfl (Y_load rfl rfl) ?_
  refine TL_name 31 (v' := .bool false) rfl (congrArg Value.bool (decide_eq_false fun h => hn h.2)) ?_
  refine TL_nil ?_
  refine T_cond_false rfl ?_
  refine T_skip ?_
  refine thenS_normal ?_
  refine T_region_draw (cells b3 (msgC m p) 44 :: []) [0, 0, 2, 0, 8, 7, 39, 103, 255, 511] [] [(0, true), (1, true), (2, true), (3, true), (4, true), (5, true), (6, true), (7, false), (8, true), (9, false)] (by kernel_rfl) (by decide +kernel) GivesTo.g ?_
  refine TF_y rfl rfl (Y_move rfl) ?_
  refine TF_y rfl rfl (Y_field_addr rfl) ?_
  refine TF_y rfl rfl (Y_load_agg rfl rfl) ?_
  refine TF_y rfl rfl (Y_field_addr rfl) ?_
  refine TF_y rfl rfl (Y_load_agg rfl rfl) ?_
  refine TF_y rfl rfl (Y_nil_check rfl) ?_
  refine TF_y rfl rfl (Y_field_addr rfl) ?_
  refine TF_anchor rfl ?_
  refine TL_store rfl rfl rfl rfl rfl rfl ?_
  refine TF_end GivesTo.g ?_
  refine TF_y rfl rfl (Y_field_addr rfl) ?_
  refine TF_anchor rfl ?_
  refine TL_store rfl rfl rfl rfl rfl rfl ?_
  refine TF_end GivesTo.g ?_
  refine TF_nil ?_
  refine T_seq ?_
  refine T_region ?_
  refine TL_y rfl rfl (Y_field_addr rfl) ?_
  refine TL_y rfl rfl (Y_load rfl rfl) ?_
  refine TL_y rfl rfl (Y_eq rfl rfl) ?_
  refine TL_name 43 (v' := .bool false) rfl (congrArg Value.bool (decide_eq_false h1)) ?_
  refine TL_nil ?_
  refine T_cond_false rfl ?_
  refine T_skip ?_
  refine thenS_normal ?_
  refine T_region_draw _ [0, 1, 3, 7, 0, 16, 0, 64, 0, 256, 0, 1024, 4032, 8128, 16383] [14] [(0, true), (1, true), (2, true), (3, true), (4, true), (5, true), (6, true), (7, true), (8, true), (9, true), (10, true), (11, true), (12, true), (13, false), (14, false)] (by kernel_rfl) (by decide +kernel) (Gives.refl _) ?_
  refine TF_y rfl rfl (Y_move rfl) ?_
  refine TF_y rfl rfl (Y_nil_check rfl) ?_
  refine TF_y rfl rfl (Y_field_addr rfl) ?_
  refine TF_y rfl rfl (Y_load rfl rfl) ?_
  refine TF_y rfl rfl (Y_field_addr rfl) ?_
  refine TF_y rfl rfl (Y_load rfl rfl) ?_
  refine TF_y rfl rfl (Y_field_addr rfl) ?_
  refine TF_y rfl rfl (Y_load rfl rfl) ?_
  refine TF_y rfl rfl (Y_field_addr rfl) ?_
  refine TF_y rfl rfl (Y_load_agg rfl rfl) ?_
  refine TF_y rfl rfl (Y_field_addr rfl) ?_
  refine TF_y rfl rfl (Y_load_agg rfl rfl) ?_
  refine TF_y rfl rfl (Y_build rfl rfl) ?_
  refine TF_anchor rfl ?_
  refine TL_call rfl rfl (acCopied_spec (newV m) (A := p.cut.1) (c := p.cut.2) (SlN.of_gives GivesTo.g hk.cut.n) hx.en) ?_
  rintro _ _ ⟨q, rfl, rfl⟩
  refine TL_freeze_osl ?_
  refine TF_end GivesTo.g ?_
  refine TF_anchor rfl ?_
  refine TL_update (R := votedR) (k := m.slot) (u := newV m) (cs := votedC (newV m) q) (vmap (putV s.V (newV m))) rfl rfl rfl hx.slot (ex_rep q (sep_sl slk) hvo) (put_perm (V := s.V) (v := newV m)) ?_
  refine TF_end_tail rfl ?_
  refine TF_nil ?_
  refine T_region ?_
  refine TL_y rfl rfl (Y_field_addr rfl) ?_
  refine TL_store rfl rfl rfl rfl rfl rfl ?_
  refine TL_nil ?_
  refine T_region_draw (cells b8 [.int .i64 4, .int .i64 s.node, .int .i64 m.frm, .int .i64 m.bal.1, .int .i64 m.bal.2, .int .i64 m.slot, .bool true, .string ⟨#[]⟩, .string ⟨#[]⟩, .int .i64 0, .slice none 0 0, .slice none 0 0, .slice none 0 0, .slice none 0 0, .int .i64 0] 44 :: cells b7 [.string (recA s m), .bool (decide (mineA s m)), .bool (decide (mineA s m ∧ nackA s m))] 115 :: []) [0, 0, 2, 1, 15, 31] [] [(0, true), (1, true), (2, true), (3, false), (4, true), (5, true)] (by kernel_rfl) (by decide +kernel) GivesTo.g ?_
  refine TF_y rfl rfl (Y_load_agg rfl rfl) ?_
  refine TF_y rfl rfl (Y_field_addr rfl) ?_
  refine TF_y rfl rfl (Y_load rfl rfl) ?_
  refine TF_anchor rfl ?_
  refine TL_store rfl rfl rfl rfl rfl rfl ?_
  refine TF_end GivesTo.g ?_
  refine TF_y rfl rfl (Y_assign rfl) ?_
  refine TF_y rfl rfl (Y_assign rfl) ?_
  refine TF_nil ?_
  refine T_ret ?_
  refine RetQ.gives (ac_close (bt := bt) b ⟨s.node, m.bal, putV s.V (newV m)⟩ (hst hi)) ?_
  refine RetQ.gives (mL_nil (m := repM s m 4 m.bal []) rfl rfl rfl rfl) ?_
  exact RetG_3 (.inl rfl) rfl (ResV.agg rfl rfl) (ResV.tmp rfl) (ResV.tmp rfl) GivesTo.g (⟨mP0, rfl, rfl⟩)
theorem acOn_spec {L : List HP} {b : Nat} {s : AccD} (m : MsgD) (p : MsgP) (hx : MsgOk m) (hk : MsgK L m p) (hc : cMsg m ≤ 140737488355328) : Fn Try.prog 23 #[.pointer (some ⟨b, 0, none⟩), .agg (List.toArray (msgC m p))] (ac b s :: L) (fun v L' => ∃ q, v = .tuple #[.agg (List.toArray (msgC (repA s m) q)), .string (recA s m), .bool (decide (mineA s m))] ∧ L' = mL (repA s m) q (ac b (stA s m) :: L)) := by
  by_cases hm : mineA s m
  · by_cases hn : nackA s m
    · exact acOn_nack m p hx hk hc hm hn
    · by_cases h1 : m.kind = 1
      · exact acOn_prep m p hx hk hc hm hn h1
      · exact acOn_acc m p hx hk hc hm hn h1
  · exact acOn_bad m p hx hk hc hm
end Go.SL
set_option linter.unusedVariables false
set_option linter.unusedSimpArgs false
namespace Go.SL
open Go Go.Proofs
end Go.SL
set_option linter.unusedVariables false
set_option linter.unusedSimpArgs false
namespace Go.SL
open Go Go.Proofs
def HeadM (m : MsgD) : Prop := rNum 255 m.kind ∧ rNum 6 m.frm ∧ rNum 6 m.to_ ∧ rBal m.bal ∧ rNum 2147483647 m.slot ∧ rEntry m.en ∧ m.voted.length ≤ 4096 ∧ rVec m.seen ∧ m.events.length ≤ 4096 ∧ rNum 4611686018427387904 m.time
instance (m : MsgD) : Decidable (HeadM m) := by unfold HeadM; exact inferInstance
end Go.SL
set_option linter.unusedVariables false
namespace Go.SL
open Go Go.Proofs
theorem cSeal_μ (x : OrderD) : cSeal x ≤ 60 * μSeal x := by unfold cSeal μSeal; omega
end Go.SL
set_option linter.unusedVariables false
set_option linter.unusedSimpArgs false
namespace Go.SL
open Go Go.Proofs
def PartRes {α : Type} (ok iv : α → Prop) (b : α → List Int) (bs : List Int) (e : Int) : Prop := ∃ x s', RdR ok iv b (rs0 bs) x s' ∧ ((e = 0 ∧ s'.bad = false) ∨ (e = 10 ∧ s'.bad = true))
end Go.SL
set_option linter.unusedVariables false
set_option linter.unusedSimpArgs false
namespace Go.SL
open Go Go.Proofs
/-- What a message does, in three ways. -/
theorem acCases (s : AccD) (m : MsgD) : (¬ mineA s m ∧ recA s m = ⟨#[]⟩ ∧ stA s m = s) ∨ (mineA s m ∧ cmpB m.bal s.prom < 0 + 1 ∧ nackA s m ∧ recA s m = ⟨#[]⟩ ∧ stA s m = s ∧ repA s m = repM s m 5 s.prom []) ∨ (mineA s m ∧ ¬ nackA s m ∧ ¬ cmpB m.bal s.prom < 0 ∧ (stA s m).prom = m.bal ∧ (repA s m).kind ≠ 5) ∨ (mineA s m ∧ ¬ cmpB m.bal s.prom < 0 + 1 ∧ nackA s m ∧ recA s m = ⟨#[]⟩ ∧ stA s m = s ∧ repA s m = repM s m 5 s.prom []) := by
  by_cases hm : mineA s m
  · by_cases hn : nackA s m
    · have e2 : recA s m = ⟨#[]⟩ := by unfold recA; rw [if_neg (fun h => h.2.1 hn)]
      have e3 : stA s m = s := by unfold stA; rw [if_neg (fun h => h.2 hn)]
      have e4 : repA s m = repM s m 5 s.prom [] := by unfold repA; rw [if_pos hm, if_pos hn]
      by_cases hc : cmpB m.bal s.prom < 0 + 1
      · exact .inr (.inl ⟨hm, hc, hn, e2, e3, e4⟩)
      · exact .inr (.inr (.inr ⟨hm, hc, hn, e2, e3, e4⟩))
    · refine .inr (.inr (.inl ⟨hm, hn, fun h => hn (.inl h), ?_, ?_⟩))
      · unfold stA; rw [if_pos ⟨hm, hn⟩]
      · unfold repA; rw [if_pos hm, if_neg hn]; split <;> simp [repM]
  · exact .inl ⟨hm, by unfold recA; rw [if_neg (fun h => hm h.1)], by unfold stA; rw [if_neg (fun h => hm h.1)]⟩
theorem acWays (s : AccD) (m : MsgD) : (¬ mineA s m ∧ recA s m = ⟨#[]⟩ ∧ stA s m = s) ∨ (mineA s m ∧ nackA s m ∧ recA s m = ⟨#[]⟩ ∧ stA s m = s ∧ repA s m = repM s m 5 s.prom []) ∨ (mineA s m ∧ ¬ nackA s m ∧ ¬ cmpB m.bal s.prom < 0 ∧ (stA s m).prom = m.bal ∧ (repA s m).kind ≠ 5) := by
  rcases acCases s m with h | ⟨h1, _, h⟩ | h | ⟨h1, _, h⟩
  · exact .inl h
  · exact .inr (.inl ⟨h1, h⟩)
  · exact .inr (.inr h)
  · exact .inr (.inl ⟨h1, h⟩)
def UnderP (s : AccD) : Prop := ∀ v ∈ s.V, ¬ 0 < cmpB v.bal s.prom
theorem cmpB_self (a : Int × Int) : cmpB a a = 0 := cmpB_zero.2 rfl
theorem cmpB_le {a b c : Int × Int} (h : ¬ 0 < cmpB a b) (k : ¬ cmpB c b < 0) : ¬ 0 < cmpB a c := by
  have e1 : ¬ cmpB b a < 0 := by rw [cmpB_neg b a]; omega
  have e2 : ¬ cmpB c a < 0 := by rw [cmpB_lt] at *; omega
  rw [cmpB_neg a c]; omega
theorem UnderP.step {s : AccD} (h : UnderP s) (m : MsgD) : UnderP (stA s m) := by
  unfold stA
  split
  · rename_i hc
    have hle : ¬ cmpB m.bal s.prom < 0 := fun e => hc.2 (.inl e)
    have hold : ∀ v ∈ s.V, ¬ 0 < cmpB v.bal m.bal := fun v hv => cmpB_le (h v hv) hle
    by_cases hk : m.kind = 1
    · rw [if_pos hk]; exact hold
    · rw [if_neg hk]
      intro v hv
      rcases put_mem.1 hv with rfl | ⟨hv, _⟩
      · show ¬ 0 < cmpB m.bal m.bal
        rw [cmpB_self]; omega
      · exact hold v hv
  · exact h
theorem UnderP.new (n : Int) : UnderP (acNew n) := fun v hv => by cases hv
theorem stA_node (s : AccD) (m : MsgD) : (stA s m).node = s.node := by unfold stA; split <;> rfl
theorem msgK_nil {m : MsgD} {L : List HP} (h1 : m.en.order.cut = []) (h2 : m.voted = []) (h3 : m.seen = []) (h4 : m.events = []) : MsgK L m mP0 := ⟨by rw [h1]; exact slnil, by rw [h2]; exact slnil, by rw [h3]; exact slnil, by rw [h4]; exact slnil⟩
abbrev lm1 : MsgD := ⟨1, 0, 1, (2, 0), 0, noopE, [], [], [], 0⟩
abbrev lm2 : MsgD := ⟨3, 2, 1, (1, 2), 0, noopE, [], [], [], 0⟩
abbrev lm3 : MsgD := ⟨3, 0, 1, (2, 0), 3, noopE, [], [], [], 0⟩
abbrev ls1 : AccD := ⟨1, (2, 0), []⟩
theorem noopOk : orderOk' noopE.order := ⟨by decide, by decide, by decide, by decide⟩
theorem smallOk {m : MsgD} (h : 0 ≤ m.kind ∧ m.kind ≤ 255 ∧ 0 ≤ m.frm ∧ m.frm ≤ 255 ∧ 0 ≤ m.to_ ∧ m.to_ ≤ 255 ∧ 0 ≤ m.bal.1 ∧ m.bal.1 ≤ 2147483648 ∧ 0 ≤ m.bal.2 ∧ m.bal.2 ≤ 255 ∧ 0 ≤ m.slot ∧ m.slot ≤ 2147483648 ∧ 0 ≤ m.time ∧ m.time ≤ 255) (he : orderOk' m.en.order) : MsgOk m := ⟨i64In_mk (by omega), i64In_mk (by omega), i64In_mk (by omega), i64In_mk (by omega), i64In_mk (by omega), i64In_mk (by omega), he, i64In_mk (by omega)⟩
end Go.SL
set_option linter.unusedVariables false
set_option linter.unusedSimpArgs false
namespace Go.SL
open Go
def ltB (a b : Int × Int) : Prop := a.1 < b.1 ∨ (a.1 = b.1 ∧ a.2 < b.2)
def leB (a b : Int × Int) : Prop := ¬ ltB b a
theorem leB_iff {a b : Int × Int} : leB a b ↔ a.1 < b.1 ∨ (a.1 = b.1 ∧ a.2 ≤ b.2) := by unfold leB ltB; omega
theorem leB_refl (a : Int × Int) : leB a a := by rw [leB_iff]; omega
theorem leB_trans {a b c : Int × Int} (h : leB a b) (k : leB b c) : leB a c := by rw [leB_iff] at *; omega
theorem ltB_le {a b c : Int × Int} (h : ltB a b) (k : leB b c) : ltB a c := by rw [leB_iff] at *; unfold ltB at *; omega
theorem leB_lt {a b c : Int × Int} (h : leB a b) (k : ltB b c) : ltB a c := by rw [leB_iff] at *; unfold ltB at *; omega
theorem ltB_leB {a b : Int × Int} (h : ltB a b) : leB a b := by rw [leB_iff]; unfold ltB at h; omega
theorem leB_eq {a b : Int × Int} (h : leB a b) (k : leB b a) : a = b := by
  rw [leB_iff] at *; exact Prod.ext (by omega) (by omega)
theorem ltB_three (a b : Int × Int) : ltB a b ∨ a = b ∨ ltB b a := by
  by_cases h : ltB a b
  · exact .inl h
  · by_cases k : ltB b a
    · exact .inr (.inr k)
    · exact .inr (.inl (leB_eq k h))
theorem cmp_ltB {a b : Int × Int} : cmpB a b < 0 ↔ ltB a b := cmpB_lt
theorem cmp_gtB {a b : Int × Int} : 0 < cmpB a b ↔ ltB b a := by rw [cmpB_neg a b, ← cmp_ltB]; omega
/-! ### Majorities -/
theorem filter_two {α : Type} {p q r : α → Bool} : ∀ {l : List α}, (∀ x ∈ l, p x = true → r x = true) → (∀ x ∈ l, q x = true → r x = true) → (∀ x ∈ l, ¬ (p x = true ∧ q x = true)) → (l.filter p).length + (l.filter q).length ≤ (l.filter r).length
  | [], _, _, _ => by simp
  | x :: l, hp, hq, hd => by
    have ih := filter_two (l := l) (fun y hy => hp y (List.mem_cons_of_mem _ hy)) (fun y hy => hq y (List.mem_cons_of_mem _ hy)) (fun y hy => hd y (List.mem_cons_of_mem _ hy))
    have h1 := hp x List.mem_cons_self; have h2 := hq x List.mem_cons_self; have h3 := hd x List.mem_cons_self
    rw [List.filter_cons, List.filter_cons, List.filter_cons]
    cases e1 : p x <;> cases e2 : q x <;> cases e3 : r x <;> simp_all <;> omega
theorem isV_count (n : Int) (hn : 1 ≤ n ∧ n ≤ 7) : (((List.range 7).filter fun i : Nat => decide (isV n (i : Int))).length : Int) = n := by
  have : n = 1 ∨ n = 2 ∨ n = 3 ∨ n = 4 ∨ n = 5 ∨ n = 6 ∨ n = 7 := by omega
  rcases this with rfl | rfl | rfl | rfl | rfl | rfl | rfl <;> decide
theorem meetV {a b : List Bool} {n : Int} (hn : 1 ≤ n ∧ n ≤ 7) (ha : enoughV a n) (hb : enoughV b n) : ∃ i, hasV a n i ∧ hasV b n i := by
  refine Classical.byContradiction fun hno => ?_
  have h := filter_two (l := List.range 7) (p := fun i : Nat => decide (hasV a n (i : Int))) (q := fun i : Nat => decide (hasV b n (i : Int))) (r := fun i : Nat => decide (isV n (i : Int))) (fun x _ h => by have := of_decide_eq_true h; exact decide_eq_true this.1) (fun x _ h => by have := of_decide_eq_true h; exact decide_eq_true this.1) (fun x _ h => hno ⟨x, of_decide_eq_true h.1, of_decide_eq_true h.2⟩)
  have hc := isV_count n hn
  unfold enoughV allV allTo at ha hb
  rw [List.length_map] at ha hb
  omega
theorem enough_one {a : List Bool} {n : Int} (hn : 1 ≤ n ∧ n ≤ 7) (ha : enoughV a n) : ∃ i, hasV a n i := by
  obtain ⟨i, h, _⟩ := meetV hn ha ha
  exact ⟨i, h⟩
/-! ### What was voted, proposed, started, promised -/
structure Gh where
  n : Int
  vt : Int → Int × Int → Int → EntryD → Prop
  pp : Int × Int → Int → EntryD → Prop
  st : Int × Int → Prop
  prom : Int → Int × Int
def Safe (X : Gh) (b : Int × Int) (s : Int) (e : EntryD) : Prop := ∃ bs, enoughV bs X.n ∧ (∀ i, hasV bs X.n i → leB b (X.prom i)) ∧ ((∀ i c e', hasV bs X.n i → X.vt i c s e' → ¬ ltB c b) ∨ ∃ i c, hasV bs X.n i ∧ ltB c b ∧ X.vt i c s e ∧ ∀ j c' e', hasV bs X.n j → X.vt j c' s e' → ltB c' b → leB c' c)
structure GI (X : Gh) : Prop where
  n : 1 ≤ X.n ∧ X.n ≤ 7
  vt : ∀ i b s e, X.vt i b s e → X.pp b s e ∧ leB b (X.prom i)
  uniq : ∀ b s e e', X.pp b s e → X.pp b s e' → e = e'
  st : ∀ b s e, X.pp b s e → X.st b
  safe : ∀ b s e, X.pp b s e → Safe X b s e
  pos : ∀ b, X.st b → 0 ≤ b.1 ∧ 0 ≤ b.2 ∧ b.2 < X.n
def Won (X : Gh) (b : Int × Int) (s : Int) (e : EntryD) : Prop := ∃ bs, enoughV bs X.n ∧ ∀ j, hasV bs X.n j → X.vt j b s e
theorem won_keeps {X : Gh} (hI : GI X) {b : Int × Int} {s : Int} {e : EntryD} (hw : Won X b s e) : ∀ (k : Nat) (b' : Int × Int) (e' : EntryD), (b'.1 * 7 + b'.2).toNat ≤ k → X.pp b' s e' → ltB b b' → e' = e := by
  obtain ⟨bs, hq, hv⟩ := hw
  intro k
  induction k with
  | zero =>
    intro b' e' hk hp hlt
    exfalso
    obtain ⟨j, hj⟩ := enough_one hI.n hq
    have h1 := hI.pos _ (hI.st _ _ _ (hI.vt _ _ _ _ (hv j hj)).1)
    have h2 := hI.pos _ (hI.st _ _ _ hp)
    unfold ltB at hlt
    omega
  | succ k ih =>
    intro b' e' hk hp hlt
    obtain ⟨bs', hq', hprom, hs⟩ := hI.safe _ _ _ hp
    obtain ⟨j, hj, hj'⟩ := meetV hI.n hq hq'
    rcases hs with hs | ⟨i, c, hi, hc, hvt, hmax⟩
    · exact absurd hlt (hs j b e hj' (hv j hj))
    · have hle := hmax j b e hj' (hv j hj) hlt
      have hpc := (hI.vt _ _ _ _ hvt).1
      rcases ltB_three b c with h | h | h
      · refine ih c e' ?_ hpc h
        have h1 := hI.pos _ (hI.st _ _ _ hpc)
        have h2 := hI.pos _ (hI.st _ _ _ hp)
        have := hI.n
        unfold ltB at hc
        omega
      · subst h
        exact hI.uniq _ _ _ _ hpc (hI.vt _ _ _ _ (hv j hj)).1
      · exact absurd h hle
theorem won_one {X : Gh} (hI : GI X) {b1 b2 : Int × Int} {s : Int} {e1 e2 : EntryD} (h1 : Won X b1 s e1) (h2 : Won X b2 s e2) : e1 = e2 := by
  have hp : ∀ {b e}, Won X b s e → X.pp b s e := fun {b e} h => by
    obtain ⟨bs, hq, hv⟩ := h
    obtain ⟨j, hj⟩ := enough_one hI.n hq
    exact (hI.vt _ _ _ _ (hv j hj)).1
  rcases ltB_three b1 b2 with h | h | h
  · exact (won_keeps hI h1 _ b2 e2 (Nat.le_refl _) (hp h2) h).symm
  · subst h; exact hI.uniq _ _ _ _ (hp h1) (hp h2)
  · exact won_keeps hI h2 _ b1 e1 (Nat.le_refl _) (hp h1) h
/-! ### What more may come -/
structure Ext (X Y : Gh) (new : Int × Int → Prop) : Prop where
  n : Y.n = X.n
  vt : ∀ i b s e, X.vt i b s e → Y.vt i b s e
  prom : ∀ i, leB (X.prom i) (Y.prom i)
  old : ∀ i c s e, Y.vt i c s e → X.vt i c s e ∨ leB (X.prom i) c
  pp : ∀ b s e, X.pp b s e → Y.pp b s e
  ppo : ∀ b s e, Y.pp b s e → X.pp b s e ∨ new b
  st : ∀ b, X.st b → Y.st b
def none2 : Int × Int → Prop := fun _ => False
theorem Ext.refl (X : Gh) (new : Int × Int → Prop) : Ext X X new := ⟨rfl, fun _ _ _ _ h => h, fun i => leB_refl _, fun _ _ _ _ h => .inl h, fun _ _ _ h => h, fun _ _ _ h => .inl h, fun _ h => h⟩
theorem Ext.trans {X Y Z : Gh} {new : Int × Int → Prop} (h : Ext X Y new) (k : Ext Y Z new) : Ext X Z new := ⟨k.n.trans h.n, fun i b s e x => k.vt _ _ _ _ (h.vt _ _ _ _ x), fun i => leB_trans (h.prom i) (k.prom i), fun i c s e x => (k.old _ _ _ _ x).elim (fun x => h.old _ _ _ _ x) (fun x => .inr (leB_trans (h.prom i) x)), fun b s e x => k.pp _ _ _ (h.pp _ _ _ x), fun b s e x => (k.ppo _ _ _ x).elim (fun x => h.ppo _ _ _ x) .inr, fun b x => k.st _ (h.st _ x)⟩
section
variable {X Y : Gh} {new : Int × Int → Prop}
/-- Votes of lesser ballots than what was promised do not come. -/
theorem Ext.below (h : Ext X Y new) {b : Int × Int} {i : Int} (hp : leB b (X.prom i)) {c : Int × Int} {s : Int} {e : EntryD} (hv : Y.vt i c s e) (hc : ltB c b) : X.vt i c s e := by
  rcases h.old _ _ _ _ hv with x | x
  · exact x
  · exact absurd (ltB_le hc (leB_trans hp x)) (leB_refl c)
theorem Safe.ext (h : Ext X Y new) {b : Int × Int} {s : Int} {e : EntryD} (hs : Safe X b s e) : Safe Y b s e := by
  obtain ⟨bs, hq, hprom, hs⟩ := hs
  refine ⟨bs, by rw [h.n]; exact hq, fun i hi => leB_trans (hprom i (by rw [← h.n]; exact hi)) (h.prom i), ?_⟩
  rw [h.n]
  rcases hs with hs | ⟨i, c, hi, hc, hvt, hmax⟩
  · exact .inl fun i c e' hi hv hc => hs i c e' hi (h.below (hprom i hi) hv hc) hc
  · exact .inr ⟨i, c, hi, hc, h.vt _ _ _ _ hvt, fun j c' e' hj hv hc' => hmax j c' e' hj (h.below (hprom j hj) hv hc') hc'⟩
theorem Won.ext (h : Ext X Y new) {b : Int × Int} {s : Int} {e : EntryD} (hw : Won X b s e) : Won Y b s e := by
  obtain ⟨bs, hq, hv⟩ := hw
  exact ⟨bs, by rw [h.n]; exact hq, fun j hj => h.vt _ _ _ _ (hv j (by rw [← h.n]; exact hj))⟩
end
/-! ### Nodes and messages -/
structure AInv (X : Gh) (i : Int) (a : AccD) : Prop where
  node : a.node = i
  ai : AI a
  prom : X.prom i = a.prom
  cur : ∀ v ∈ a.V, X.vt i v.bal v.slot v.en
  hist : ∀ b s e, X.vt i b s e → ∃ v ∈ a.V, v.slot = s ∧ leB b v.bal
/-- What was told by those who promised. -/
def Told (X : Gh) (told : List Bool) (kept : List VotedD) (b : Int × Int) : Prop :=
  (∀ j, hasV told X.n j → leB b (X.prom j) ∧ ∀ c s e, X.vt j c s e → ltB c b → ∃ v ∈ kept, v.slot = s ∧ leB c v.bal) ∧ ∀ v ∈ kept, ltB v.bal b ∧ ∃ j, hasV told X.n j ∧ X.vt j v.bal v.slot v.en
def Above (X : Gh) (b : Int × Int) (next : Int) : Prop := ∃ bs, enoughV bs X.n ∧ ∀ j, hasV bs X.n j → leB b (X.prom j) ∧ ∀ c s e, X.vt j c s e → next ≤ s → ¬ ltB c b
structure LInv (X : Gh) (i : Int) (p : PP) : Prop where
  node : p.node = i
  nodes : p.nodes = X.n
  frm : p.frm = 0
  own : p.phase ≠ 0 → X.st p.bal ∧ p.bal.2 = i
  mine : p.phase = 2 → ∀ s e, X.pp p.bal s e → s < p.next
  fl : ∀ f ∈ p.F, p.phase = 2 ∧ X.pp p.bal f.slot f.en ∧ ∀ j, hasV f.by_ X.n j → X.vt j p.bal f.slot f.en
structure PInv (X : Gh) (i : Int) (p : PP) : Prop extends LInv X i p where
  prep : p.phase = 1 → (∀ s e, ¬ X.pp p.bal s e) ∧ Told X p.told p.kept p.bal
  lead : p.phase = 2 → Above X p.bal p.next
structure MInv (X : Gh) (m : MsgD) : Prop where
  to_ : isV X.n m.to_
  frm : isV X.n m.frm
  right : rMsg m
  seen : m.seen = []
  events : m.events = []
  k1 : m.kind = 1 → m.slot = 0
  k2 : m.kind = 2 → leB m.bal (X.prom m.frm) ∧ (∀ c s e, X.vt m.frm c s e → ltB c m.bal → ∃ v ∈ m.voted, v.slot = s ∧ leB c v.bal) ∧ ∀ v ∈ m.voted, X.vt m.frm v.bal v.slot v.en ∧ leB v.bal m.bal
  k3 : m.kind = 3 → X.pp m.bal m.slot m.en
  k4 : m.kind = 4 → ∃ e, X.vt m.frm m.bal m.slot e
section
variable {X Y : Gh} {new : Int × Int → Prop}
theorem Told.ext (h : Ext X Y new) {told : List Bool} {kept : List VotedD} {b : Int × Int} (k : Told X told kept b) : Told Y told kept b := by
  unfold Told at *
  rw [h.n]
  exact ⟨fun j hj => ⟨leB_trans (k.1 j hj).1 (h.prom j), fun c s e hv hc => (k.1 j hj).2 c s e (h.below (k.1 j hj).1 hv hc) hc⟩, fun v hv => ⟨(k.2 v hv).1, (k.2 v hv).2.imp fun j hj => ⟨hj.1, h.vt _ _ _ _ hj.2⟩⟩⟩
theorem Above.ext (h : Ext X Y new) {b : Int × Int} {next : Int} (k : Above X b next) : Above Y b next := by
  obtain ⟨bs, hq, hb⟩ := k
  refine ⟨bs, by rw [h.n]; exact hq, fun j hj => ?_⟩
  rw [h.n] at hj
  exact ⟨leB_trans (hb j hj).1 (h.prom j), fun c s e hv hs hc => (hb j hj).2 c s e (h.below (hb j hj).1 hv hc) hs hc⟩
theorem LInv.ext (h : Ext X Y new) {i : Int} {p : PP} (k : LInv X i p) (hn : ∀ b, new b → b.2 ≠ i) : LInv Y i p where
  node := k.node
  nodes := by rw [h.n]; exact k.nodes
  frm := k.frm
  own := fun e => ⟨h.st _ (k.own e).1, (k.own e).2⟩
  mine := fun e s q hp => (h.ppo _ _ _ hp).elim (k.mine e s q) fun x => absurd (k.own (by omega)).2 (hn _ x)
  fl := fun f hf => by rw [h.n]; exact ⟨(k.fl f hf).1, h.pp _ _ _ (k.fl f hf).2.1, fun j hj => h.vt _ _ _ _ ((k.fl f hf).2.2 j hj)⟩
theorem PInv.ext (h : Ext X Y new) {i : Int} {p : PP} (k : PInv X i p) (hn : ∀ b, new b → b.2 ≠ i) : PInv Y i p where
  toLInv := k.toLInv.ext h hn
  prep := fun e => ⟨fun s q hp => (h.ppo _ _ _ hp).elim ((k.prep e).1 s q) fun x => absurd (k.own (by omega)).2 (hn _ x), (k.prep e).2.ext h⟩
  lead := fun e => (k.lead e).ext h
theorem MInv.ext (h : Ext X Y new) {m : MsgD} (k : MInv X m) : MInv Y m where
  to_ := by rw [h.n]; exact k.to_
  frm := by rw [h.n]; exact k.frm
  right := k.right
  seen := k.seen
  events := k.events
  k1 := k.k1
  k2 := fun e => ⟨leB_trans (k.k2 e).1 (h.prom _), fun c s q hv hc => (k.k2 e).2.1 c s q (h.below (k.k2 e).1 hv hc) hc, fun v hv => ⟨h.vt _ _ _ _ ((k.k2 e).2.2 v hv).1, ((k.k2 e).2.2 v hv).2⟩⟩
  k3 := fun e => h.pp _ _ _ (k.k3 e)
  k4 := fun e => (k.k4 e).imp fun q hv => h.vt _ _ _ _ hv
theorem AInv.ext {i : Int} {a : AccD} (k : AInv X i a) (h1 : Y.prom i = X.prom i) (h2 : ∀ b s e, Y.vt i b s e ↔ X.vt i b s e) : AInv Y i a := ⟨k.node, k.ai, h1.trans k.prom, fun v hv => (h2 _ _ _).2 (k.cur v hv), fun b s e hv => k.hist b s e ((h2 _ _ _).1 hv)⟩
end
end Go.SL
set_option linter.unusedVariables false
set_option linter.unusedSimpArgs false
namespace Go.SL
open Go
theorem isV_six {n i : Int} (hn : 1 ≤ n ∧ n ≤ 7) (h : isV n i) : rNum 6 i := by unfold isV at h; unfold rNum; omega
theorem hasV_add {bs : List Bool} {n node j : Int} (h : hasV (addV bs n node) n j) : hasV bs n j ∨ (j = node ∧ isV n node) := by
  unfold addV at h
  split at h
  · rename_i hv
    obtain ⟨h1, h2⟩ := h
    by_cases e : j = node
    · exact .inr ⟨e, hv⟩
    · refine .inl ⟨h1, ?_⟩
      rw [List.getElem?_set] at h2
      rw [if_neg (by unfold isV at h1 hv; omega)] at h2
      exact h2
  · exact .inl h
theorem hasV_no {n j : Int} : ¬ hasV no7 n j := fun h => by
  have := h.2
  rw [List.getElem?_replicate] at this
  split at this <;> simp at this
theorem noop_right : rEntry noopE := by decide +kernel
/-! ### An acceptor -/
def accA (a : AccD) (m : MsgD) : Prop := mineA a m ∧ ¬ nackA a m ∧ m.kind = 3
def accG (X : Gh) (i : Int) (a : AccD) (m : MsgD) : Gh := { X with prom := fun j => if j = i then (stA a m).prom else X.prom j, vt := fun j b s e => X.vt j b s e ∨ (j = i ∧ accA a m ∧ b = m.bal ∧ s = m.slot ∧ e = m.en) }
theorem stA_prom (a : AccD) (m : MsgD) : leB a.prom (stA a m).prom ∧ (mineA a m ∧ ¬ nackA a m → (stA a m).prom = m.bal ∧ leB a.prom m.bal) := by
  rcases acWays a m with ⟨h1, _, h2⟩ | ⟨h1, h2, _, h3, _⟩ | ⟨h1, h2, h3, h4, _⟩
  · rw [h2]; exact ⟨leB_refl _, fun h => absurd h.1 h1⟩
  · rw [h3]; exact ⟨leB_refl _, fun h => absurd h2 h.2⟩
  · have : leB a.prom m.bal := fun h => h3 (cmp_ltB.2 h)
    exact ⟨by rw [h4]; exact this, fun _ => ⟨h4, this⟩⟩
theorem stA_V (a : AccD) (m : MsgD) : (accA a m ∧ (stA a m).V = putV a.V (newV m)) ∨ (¬ accA a m ∧ (stA a m).V = a.V) := by
  unfold stA
  by_cases h : mineA a m ∧ ¬ nackA a m
  · rw [if_pos h]
    rcases h.1.2.2 with h1 | h3
    · exact .inr ⟨fun x => by have := x.2.2; omega, by rw [if_pos h1]⟩
    · exact .inl ⟨⟨h.1, h.2, h3⟩, by dsimp only; rw [if_neg (by omega)]⟩
  · rw [if_neg h]; exact .inr ⟨fun x => h ⟨x.1, x.2.1⟩, rfl⟩
section
variable {X : Gh} {i : Int} {a : AccD} {m : MsgD}
theorem accG_ext (ha : AInv X i a) : Ext X (accG X i a m) none2 where
  n := rfl
  vt := fun _ _ _ _ h => .inl h
  prom := fun j => by
    show leB _ (if j = i then (stA a m).prom else X.prom j)
    split
    · rename_i e; subst e; rw [ha.prom]; exact (stA_prom a m).1
    · exact leB_refl _
  old := fun j c s e h => by
    rcases h with h | ⟨rfl, hc, rfl, _⟩
    · exact .inl h
    · rw [ha.prom]; exact .inr ((stA_prom a m).2 ⟨hc.1, hc.2.1⟩).2
  pp := fun _ _ _ h => h
  ppo := fun _ _ _ h => .inl h
  st := fun _ h => h
theorem accG_GI (hI : GI X) (ha : AInv X i a) (hm : MInv X m) : GI (accG X i a m) where
  n := hI.n
  vt := fun j b s e h => by
    rcases h with h | ⟨rfl, hc, rfl, rfl, rfl⟩
    · exact ⟨(hI.vt _ _ _ _ h).1, leB_trans (hI.vt _ _ _ _ h).2 ((accG_ext (m := m) ha).prom j)⟩
    · refine ⟨hm.k3 hc.2.2, ?_⟩
      show leB _ (if j = j then (stA a m).prom else X.prom j)
      rw [if_pos rfl, ((stA_prom a m).2 ⟨hc.1, hc.2.1⟩).1]
      exact leB_refl _
  uniq := hI.uniq
  st := hI.st
  safe := fun b s e h => (hI.safe b s e h).ext (accG_ext (m := m) ha)
  pos := hI.pos
theorem accG_AInv (hI : GI X) (ha : AInv X i a) (hx : MsgOk m) : AInv (accG X i a m) i (stA a m) where
  node := (stA_node a m).trans ha.node
  ai := ha.ai.step hx
  prom := if_pos rfl
  cur := fun v hv => by
    rcases stA_V a m with ⟨hc, e⟩ | ⟨hc, e⟩
    · rw [e] at hv
      rcases put_mem.1 hv with rfl | ⟨hv, _⟩
      · exact .inr ⟨rfl, hc, rfl, rfl, rfl⟩
      · exact .inl (ha.cur v hv)
    · rw [e] at hv; exact .inl (ha.cur v hv)
  hist := fun b s e h => by
    rcases stA_V a m with ⟨hc, e1⟩ | ⟨hc, e1⟩
    · rw [e1]
      rcases h with h | ⟨_, _, rfl, rfl, rfl⟩
      · obtain ⟨v, hv, hs, hb⟩ := ha.hist b s e h
        by_cases hsl : v.slot = m.slot
        · refine ⟨newV m, put_mem.2 (.inl rfl), hsl.symm.trans hs, ?_⟩
          have h1 := (hI.vt _ _ _ _ h).2
          rw [ha.prom] at h1
          exact leB_trans h1 ((stA_prom a m).2 ⟨hc.1, hc.2.1⟩).2
        · exact ⟨v, put_mem.2 (.inr ⟨hv, hsl⟩), hs, hb⟩
      · exact ⟨newV m, put_mem.2 (.inl rfl), rfl, leB_refl _⟩
    · rw [e1]
      rcases h with h | ⟨_, h, _⟩
      · exact ha.hist b s e h
      · exact absurd h hc
theorem accG_other {j : Int} (hj : j ≠ i) : (accG X i a m).prom j = X.prom j ∧ ∀ b s e, (accG X i a m).vt j b s e ↔ X.vt j b s e := ⟨if_neg hj, fun b s e => ⟨fun h => h.elim id fun h => absurd h.1 hj, .inl⟩⟩
theorem repM_right {k : Int} {bal : Int × Int} {vs : List VotedD} (hn : 1 ≤ X.n ∧ X.n ≤ 7) (hv : isV X.n i) (ha : AInv X i a) (hm : MInv X m) (hk : rNum 255 k) (hb : rBal bal) (h1 : vs.length ≤ 4096) (h2 : ∀ v ∈ vs, rVoted v) : rMsg (repM a m k bal vs) :=
  ⟨hk, by show rNum 6 a.node; rw [ha.node]; exact isV_six hn hv, isV_six hn hm.frm, hb, hm.right.2.2.2.2.1, noop_right, ⟨h1, h2⟩, ⟨by simp [repM], by simp [repM], (by decide : lastZero [] = false)⟩, ⟨by simp [repM], by simp [repM]⟩, by simp [repM, rNum]⟩
theorem accG_rep (hI : GI X) (hv : isV X.n i) (ha : AInv X i a) (hm : MInv X m) (hmi : mineA a m) : MInv (accG X i a m) (repA a m) := by
  have hr := mine_msg hmi
  unfold repA
  rw [if_pos hmi]
  have hnode : isV X.n a.node := by rw [ha.node]; exact hv
  split
  · exact ⟨hm.frm, hnode, repM_right hI.n hv ha hm (by decide) ha.ai.prom (by simp) (by simp), rfl, rfl, fun e => absurd e (by simp [repM]), fun e => absurd e (by simp [repM]), fun e => absurd e (by simp [repM]), fun e => absurd e (by simp [repM])⟩
  · rename_i hn
    have hle := ((stA_prom a m).2 ⟨hmi, hn⟩)
    split
    · rename_i h1
      have hs : m.slot = 0 := hm.k1 h1
      have hz : aboveV a.V m.slot = a.V := by rw [hs]; exact List.filter_eq_self.2 fun v hv => by have := (ha.ai.ok v hv).1.1; unfold rNum at this; simp; omega
      rw [hz]
      have hna : ¬ accA a m := fun h => by have := h.2.2; omega
      refine ⟨hm.frm, hnode, repM_right hI.n hv ha hm (by decide) hr.2.2.2.1 ha.ai.len (fun v hv => (ha.ai.ok v hv).1), rfl, rfl, fun e => absurd e (by simp [repM]), fun _ => ⟨?_, ?_, ?_⟩, fun e => absurd e (by simp [repM]), fun e => absurd e (by simp [repM])⟩
      · show leB m.bal (if a.node = i then (stA a m).prom else X.prom a.node)
        rw [if_pos ha.node, hle.1]; exact leB_refl _
      · intro c s e h _
        rcases h with h | ⟨_, h, _⟩
        · have h' : X.vt i c s e := by rw [← ha.node]; exact h
          exact ha.hist c s e h'
        · exact absurd h hna
      · intro v hv
        have h1 : X.vt i v.bal v.slot v.en := ha.cur v hv
        refine ⟨.inl (by show X.vt a.node _ _ _; rw [ha.node]; exact h1), ?_⟩
        have h2 := (hI.vt _ _ _ _ h1).2
        rw [ha.prom] at h2
        exact leB_trans h2 hle.2
    · rename_i h1
      have h3 : m.kind = 3 := by rcases hmi.2.2 with e | e; exact absurd e h1; exact e
      exact ⟨hm.frm, hnode, repM_right hI.n hv ha hm (by decide) hr.2.2.2.1 (by simp) (by simp), rfl, rfl, fun e => absurd e (by simp [repM]), fun e => absurd e (by simp [repM]), fun e => absurd e (by simp [repM]), fun _ => ⟨m.en, .inr ⟨ha.node, ⟨hmi, hn, h3⟩, rfl, rfl, rfl⟩⟩⟩
end
/-! ### What a proposer sends -/
theorem allM_inv {X : Gh} {i : Int} {p : PP} {m : MsgD} {bs : List Bool} (hn : 1 ≤ X.n ∧ X.n ≤ 7) (hv : isV X.n i) (h1 : p.node = i) (h2 : p.nodes = X.n) (h : ∀ to, isV X.n to → MInv X (toM m i to)) : ∀ q ∈ allM p m bs, MInv X q := by
  intro q hq
  obtain ⟨k, hk, rfl⟩ := List.mem_map.1 hq
  have := List.mem_range.1 (List.mem_filter.1 hk).1
  rw [h1]
  exact h _ (by unfold isV; rw [h2] at this; omega)
theorem prep_inv {X : Gh} {i : Int} {p : PP} (hn : 1 ≤ X.n ∧ X.n ≤ 7) (hv : isV X.n i) (hl : LInv X i p) (hb : rBal p.bal) : ∀ q ∈ prepM p, MInv X q := by
  refine allM_inv hn hv hl.node hl.nodes fun to ht => ?_
  refine ⟨ht, hv, ⟨(by decide : rNum 255 1), isV_six hn hv, isV_six hn ht, hb, by show rNum _ p.frm; rw [hl.frm]; decide, noop_right, ⟨by simp [toM], by simp [toM]⟩, ⟨by simp [toM], by simp [toM], (by decide : lastZero [] = false)⟩, ⟨by simp [toM], by simp [toM]⟩, by simp [toM, rNum]⟩, rfl, rfl, fun _ => hl.frm, fun e => absurd e (by simp [toM]), fun e => absurd e (by simp [toM]), fun e => absurd e (by simp [toM])⟩
theorem acc_inv {X : Gh} {i : Int} {p : PP} {f : FlP} (hn : 1 ≤ X.n ∧ X.n ≤ 7) (hv : isV X.n i) (h1 : p.node = i) (h2 : p.nodes = X.n) (hb : rBal p.bal) (he : rEntry f.en) (hs : rNum 2147483647 f.slot) (hp : X.pp p.bal f.slot f.en) : ∀ q ∈ accM p f, MInv X q := by
  refine allM_inv hn hv h1 h2 fun to ht => ?_
  refine ⟨ht, hv, ⟨(by decide : rNum 255 3), isV_six hn hv, isV_six hn ht, hb, hs, he, ⟨by simp [toM], by simp [toM]⟩, ⟨by simp [toM], by simp [toM], (by decide : lastZero [] = false)⟩, ⟨by simp [toM], by simp [toM]⟩, by simp [toM, rNum]⟩, rfl, rfl, fun e => absurd e (by simp [toM]), fun e => absurd e (by simp [toM]), fun _ => hp, fun e => absurd e (by simp [toM])⟩
end Go.SL
set_option linter.unusedVariables false
set_option linter.unusedSimpArgs false
namespace Go.SL
open Go
open Go.MapKept Go.WideShapes
open Go.ChangeMaps (setBlock)
section lists
variable {α β : Type}
end lists
section
variable {κ α : Type} {K : KeyT κ} {R : Rep α} {ag : Bool}
abbrev notSeen (seen : Array Nat) (x : MapEntry × (κ × α)) : Bool := !seen.contains x.1.born
def leftL (es : List MapEntry) (l : List (κ × α)) (seen : Array Nat) : List (κ × α) := ((es.zip l).filter (notSeen seen)).map (·.2)
structure MrD (K : KeyT κ) (R : Rep α) (es : Array MapEntry) (clock since : Nat) (l : List (κ × α)) (seen : Array Nat) (m todo : List (κ × α)) (cur : Option (κ × α)) : Prop where
  st : Stamped es clock
  old : ∀ x ∈ es.toList, x.born < since
  sc : since ≤ clock
  lp : l.Perm m
  len : es.toList.length = l.length
  left : todo.Perm (leftL es.toList l seen)
  cur : ∀ p, cur = some p → ∃ (e : MapEntry) (s0 : Array Nat) (j : Nat), seen = s0.push e.born ∧ es.toList[j]? = some e ∧ l[j]? = some p
abbrev mrDF (K : KeyT κ) (R : Rep α) (ag : Bool) (b it : Nat) (m todo : List (κ × α)) (cur : Option (κ × α)) (x : Array MapEntry × Nat × Nat × List (κ × α) × Array Nat) : List HP :=
  [own it (.mapIter (some b) x.2.2.1 x.2.2.2.2 x.2.1), own b (.map x.1 x.2.1), entsP K R ag x.1.toList x.2.2.2.1, pure (MrD K R x.1 x.2.1 x.2.2.1 x.2.2.2.1 x.2.2.2.2 m todo cur)]
/-- The map b (now m) and an iterator over it: of m these are to come. -/
def mrD (K : KeyT κ) (R : Rep α) (ag : Bool) (b it : Nat) (m todo : List (κ × α)) (cur : Option (κ × α)) : HP := exH (mrDF K R ag b it m todo cur)
class FindD (L : List HP) (it : Nat) (b : outParam Nat) (κ : outParam Type) (α : outParam Type) (K : outParam (KeyT κ)) (R : outParam (Rep α)) (ag : outParam Bool) (m todo : outParam (List (κ × α))) (cur : outParam (Option (κ × α))) (L' : outParam (List HP)) : Prop where
  g : Gives L (mrD K R ag b it m todo cur :: L')
variable {L L0 : List HP} {b it : Nat} {m todo : List (κ × α)} {cur : Option (κ × α)}
instance findD_tail {p : HP} {L L' : List HP} {b it : Nat} {κ α : Type} {K : KeyT κ} {R : Rep α} {ag : Bool} {m todo : List (κ × α)} {cur : Option (κ × α)} [h : FindD L it b κ α K R ag m todo cur L'] : FindD (p :: L) it b κ α K R ag m todo cur (p :: L') := ⟨(Gives.cons p h.g).trans (Gives.swap p _ _)⟩
instance findD_head {L : List HP} {b it : Nat} {κ α : Type} {K : KeyT κ} {R : Rep α} {ag : Bool} {m todo : List (κ × α)} {cur : Option (κ × α)} : FindD (mrD K R ag b it m todo cur :: L) it b κ α K R ag m todo cur L := ⟨Gives.refl _⟩
theorem MrD.some_none {es : Array MapEntry} {clock since : Nat} {l : List (κ × α)} {seen : Array Nat} (h : MrD K R es clock since l seen m todo cur) : MrD K R es clock since l seen m todo none := ⟨h.st, h.old, h.sc, h.lp, h.len, h.left, fun p e => by cases e⟩
section
variable {r : Option Nat} {n : Nat} {P : Program} {ops : Array Oper} {rest : List Oper} {KK : St → Prop} {Q : Exit → St → Prop} {D : List Deferred} {E : Env} {L L' L0 : List HP} {d : Nat} {ty : TypeId} {pos : String} {af : Array Edge}
variable [DecidableEq κ]
end
end
end Go.SL
set_option linter.unusedVariables false
set_option linter.unusedSimpArgs false
set_option linter.unusedSectionVars false
namespace Go.SL
open Go
open Go.MapKept Go.WideShapes
open Go.ChangeMaps (setBlock)
section
variable {r : Option Nat} {n : Nat} {P : Program} {ops : Array Oper} {rest : List Oper} {KK : St → Prop} {D : List Deferred} {E : Env} {L L' L0 : List HP} {d : Nat} {ty : TypeId} {pos : String} {af : Array Edge}
variable {κ α : Type} [DecidableEq κ] {K : KeyT κ} {R : Rep α} {ag : Bool} {b : Nat} {m : List (κ × α)}
theorem clear_run {t kt et ty0 : TypeId} [ht : TyDesc P t (.map kt et)] {W w : World} (hs : Sat W w (omap K R ag b m :: L)) :
    ∃ w', (Builtin.clear_ #[t] ty0 #[.map (some b)]).run P w = .ok (.tuple #[]) w' ∧ Sat W w' (omap K R ag b [] :: L) := by
  obtain ⟨es, clock, l, hst, hp, hs1⟩ := omap_open hs
  have hbw : w.heap[b]? = some (.map es clock) := hs1.own_at
  refine ⟨setBlock w b (.map #[] clock), ?_, (sat_setBlock hs1).gives (Gives.trans ?_ (omap_close (l := []) (es := #[]) (clock := clock) (stamped_empty _) (List.Perm.refl _)))⟩
  · simp [Builtin.clear_, ht.run, MapKept.run_getObj_map hbw, MapKept.run_setObj_map _ hbw, Result.andThen, setBlock]
  · intro N q ⟨a1, a2, ad, b1, b2, ho, a3, a4, ad', b3, b4, hen, hsep⟩
    exact ⟨a1, a2, ad, b1, b2, ho, a3, a4, ad', b3, b4, ⟨rfl, fun i e p he => by simp at he⟩, hsep⟩
theorem TL_clear0 {x : Operand} {t kt et : TypeId} [ht : TyDesc P t (.map kt et)] [hf : FindM L b κ α K R ag m L0] (hx : ev E x = some (.map (some b)))
    (h : TL r n P ops rest ⟨D, E, omap K R ag b [] :: L0⟩ KK) : TL r n P ops (⟨none, .call { callee := .builtin .clear, args := #[x], argTypes := #[t] }, ty, pos, af, none⟩ :: rest) ⟨D, E, L⟩ KK :=
  TL_skip rfl rfl (fun _ e => by cases e) fun W a w hh => by
    obtain ⟨w', hrun, hs⟩ := clear_run (P := P) (t := t) (kt := kt) (et := et) (ty0 := ty) (hh.2.gives hf.g)
    exact ⟨_, w', _, by simp [execOp, resolve, invoke, builtin, hh.1.ev hx, hrun]; rfl, .inr ⟨_, rfl⟩, hs, h⟩
end
end Go.SL
set_option linter.unusedVariables false
set_option linter.unusedSimpArgs false
namespace Go.SL
open Go Go.Proofs
structure FlD where
  slot : Int
  en : EntryD
  by_ : List Bool
  vb : Nat
structure PrD where
  node : Int
  nodes : Int
  phase : Int
  bal : Int × Int
  seen : Int × Int
  frm : Int
  next : Int
  bt : Nat
  told : List Bool
  A : Option Addr
  c : Nat
  kept : List VotedD
  bm : Nat
  F : List FlD
abbrev FlD.pl (f : FlD) : FlP := ⟨f.slot, f.en, f.by_⟩
abbrev PrD.pl (s : PrD) : PP := ⟨s.node, s.nodes, s.phase, s.bal, s.seen, s.frm, s.next, s.told, s.kept, s.F.map FlD.pl⟩
def flR : Rep (EntryD × Nat) := exR 6 (fun f p => entryC f.1 p ++ [.pointer (some ⟨f.2, 0, none⟩)]) (fun f p => [sl (intR .i64) p.1 p.2 f.1.order.cut]) (fun f => orderOk' f.1.order) (fun _ _ => rfl) (fun _ _ => rfl)
instance : IsEx flR (Option Addr × Nat) 6 (fun f p => entryC f.1 p ++ [.pointer (some ⟨f.2, 0, none⟩)]) (fun f p => [sl (intR .i64) p.1 p.2 f.1.order.cut]) (fun f => orderOk' f.1.order) := ⟨_, _, rfl⟩
abbrev fmapP (F : List FlD) : List (Int × (EntryD × Nat)) := F.map fun f => (f.slot, (f.en, f.vb))
abbrev prC (s : PrD) : List Value := [.int .i64 s.node, .int .i64 s.nodes, .int .i64 s.phase, .int .i64 s.bal.1, .int .i64 s.bal.2, .int .i64 s.seen.1, .int .i64 s.seen.2, .int .i64 s.frm, .int .i64 s.next, .pointer (some ⟨s.bt, 0, none⟩), .slice s.A s.kept.length s.c, .map (some s.bm)]
def countB (bs : List Bool) : Nat := (bs.filter id).length
structure PI (s : PP) : Prop where
  nodes : 1 ≤ s.nodes ∧ s.nodes ≤ 7
  node : 0 ≤ s.node ∧ s.node < s.nodes
  phase : 0 ≤ s.phase ∧ s.phase ≤ 2
  told : s.told.length = 7
  by_ : ∀ f ∈ s.F, f.by_.length = 7
  inc : s.F.Pairwise fun f g => g.slot < f.slot
  len : s.F.length ≤ 4096
  rng : ∀ f ∈ s.F, 0 ≤ f.slot ∧ f.slot < s.next
  next : 0 ≤ s.next ∧ s.next ≤ 2147483648
  frm : 0 ≤ s.frm ∧ s.frm ≤ 2147483647
  kept : s.kept.length ≤ 4096 * countB s.told
  bal : rBal s.bal
  seen : rBal s.seen
  kin : ∀ v ∈ s.kept, rVoted v ∧ votedOk v
  fen : ∀ f ∈ s.F, rEntry f.en ∧ orderOk' f.en.order
  ph1 : s.phase = 1 → s.F = []
theorem allP_perm {ps qs : List HP} {L : List HP} (h : ps.Perm qs) : Gives (allH ps :: L) (allH qs :: L) := (unS_open.trans (Gives.perm (h.append_right L))).trans unS_close
theorem allP_uncons {a : HP} {r L : List HP} : Gives (allH (a :: r) :: L) (a :: allH r :: L) := (unS_open (L := a :: r) (L' := L)).trans (Gives.cons a unS_close)
theorem allP_cons {a : HP} {r L : List HP} : Gives (a :: allH r :: L) (allH (a :: r) :: L) := (Gives.cons a (unS_open (L := r) (L' := L))).trans (unS_close (L := a :: r) (L' := L))
def flHs (F : List FlD) (n : Int) : List HP := F.map fun f => votes f.vb f.by_ n
def flH (F : List FlD) (n : Int) : HP := allH (flHs F n)
abbrev prP (b : Nat) (s : PrD) : List HP := [cells b (prC s) 133, votes s.bt s.told s.nodes, osl votedR 50 s.A s.c s.kept, omap intK flR true s.bm (fmapP s.F), flH s.F s.nodes]
abbrev prF (b : Nat) (p : PP) (s : PrD) : List HP := pure (s.pl = p ∧ PI p) :: prP b s
def pr (b : Nat) (p : PP) : HP := exH (prF b p)
instance findK_pr {L : List HP} {b : Nat} {p : PP} : FindK (pr b p :: L) b (pr b p) L := ⟨Gives.refl _⟩
section
variable {r : Option Nat} {n : Nat} {P : Program} {ops : Array Oper} {rest : List Oper} {K : St → Prop} {Q : Exit → St → Prop} {D : List Deferred} {E : Env} {L L' : List HP} {b : Nat} {p : PP}
theorem pr_open {W w : World} (h : Sat W w (pr b p :: L)) : ∃ s : PrD, s.pl = p ∧ PI p ∧ Sat W w (prP b s ++ L) := by
  obtain ⟨s, hp⟩ := exH_open h
  obtain ⟨M, k, hd, hM, hk, h1, h2, hd', l1, l2, hq, hs⟩ := hp.ex
  exact ⟨s, hq.1, hq.2, hp.gives (Gives.drop _ _)⟩
theorem T_pr {c : Code} (h : ∀ s : PrD, s.pl = p → PI p → T r n P c ⟨D, E, cells b (prC s) 133 :: votes s.bt s.told s.nodes :: osl votedR 50 s.A s.c s.kept :: omap intK flR true s.bm (fmapP s.F) :: flH s.F s.nodes :: L⟩ Q) : T r n P c ⟨D, E, pr b p :: L⟩ Q := fun W a w hh => by
  obtain ⟨s, h1, h2, hs⟩ := pr_open hh.2
  exact h s h1 h2 W a w ⟨hh.1, hs⟩
theorem T_prI {c : Code} (h : PI p → T r n P c ⟨D, E, pr b p :: L⟩ Q) : T r n P c ⟨D, E, pr b p :: L⟩ Q := fun W a w hh => by
  obtain ⟨s, h1, h2, hs⟩ := pr_open hh.2
  exact h h2 W a w hh
theorem Y_pr {L0 : List HP} {ty : TypeId} {op : Op} {v : Value} [hf : FindK L b (pr b p) L0] (h : ∀ s : PrD, s.pl = p → Yl P E (cells b (prC s) 133 :: L0) op ty v) : Yl P E L op ty v := fun n D W a w dst pos af gd ha hs => by
  obtain ⟨s, h1, h2, hs'⟩ := pr_open (hs.gives hf.g)
  exact h s h1 n D W a w dst pos af gd ha (hs'.gives (Gives.cons _ ((Gives.drop _ _).trans ((Gives.drop _ _).trans ((Gives.drop _ _).trans (Gives.drop _ _))))))
theorem pr_close {L1 L2 L3 L4 L5 : List HP} (b : Nat) (s : PrD) (p : PP) [h1 : FindC L b (prC s) 133 L1] [h2 : FindC L1 s.bt (vc s.told s.nodes) 154 L2] [h3 : FindHP L2 (osl votedR 50 s.A s.c s.kept) L3] [h4 : FindM L3 s.bm Int (EntryD × Nat) intK flR true (fmapP s.F) L4] [h5 : FindHP L4 (flH s.F s.nodes) L5] (hp : s.pl = p) (hi : PI p) : Gives L (pr b p :: L5) := by
  refine Gives.trans (h1.g.trans (Gives.cons _ (h2.g.trans (Gives.cons _ (h3.g.trans (Gives.cons _ (h4.g.trans (Gives.cons _ h5.g)))))))) ?_
  refine Gives.trans ?_ (exH_close (f := prF b p) s)
  exact Gives.pure_intro ⟨hp, hi⟩
end
end Go.SL
set_option linter.unusedVariables false
set_option linter.unusedSimpArgs false
namespace Go.SL
open Go Go.Proofs
theorem rBal0 : rBal (0, 0) := by decide
theorem countB_le (bs : List Bool) : countB bs ≤ bs.length := List.length_filter_le _ _
theorem ppStop_I {p : PP} (h : PI p) : PI (ppStop p) := ⟨h.nodes, h.node, by simp [ppStop], by simp [ppStop], by simp [ppStop], by simp [ppStop], by simp [ppStop], by simp [ppStop], by simp [ppStop], h.frm, by simp [ppStop], rBal0, h.seen, by simp [ppStop], by simp [ppStop], fun _ => rfl⟩
theorem ppNew_I {node nodes : Int} (h : 1 ≤ nodes ∧ nodes ≤ 7) (h2 : 0 ≤ node ∧ node < nodes) : PI (ppNew node nodes) := ⟨h, h2, by simp [ppNew], by simp [ppNew], by simp [ppNew], by simp [ppNew], by simp [ppNew], by simp [ppNew], by simp [ppNew], by simp [ppNew], by simp [ppNew], rBal0, rBal0, by simp [ppNew], by simp [ppNew], fun _ => rfl⟩
abbrev freshC (node nodes : Int) : List Value := [.int .i64 node, .int .i64 nodes, .int .i64 0, .int .i64 0, .int .i64 0, .int .i64 0, .int .i64 0, .int .i64 0, .int .i64 0, .pointer none, .slice none 0 0, .map none]
theorem prMade_spec {L : List HP} {b : Nat} {p : PP} : Fn Try.prog 76 #[.pointer (some ⟨b, 0, none⟩)] (pr b p :: L) (fun v L' => v = .bool true ∧ L' = pr b p :: L) := by
  refine Fn_enter Try.func76 rfl rfl rfl rfl ?_
  refine T_pr fun s hs hi => ?_
  subst hs
  have h1 : 1 ≤ s.nodes ∧ s.nodes ≤ 7 := hi.nodes
  refine T_region ?_
  refine TL_y rfl rfl (Y_assign rfl) ?_
  refine TL_nil ?_
  refine T_region ?_
  refine TL_y rfl rfl (Y_move rfl) ?_
  refine TL_y rfl rfl (Y_unequal rfl rfl (EqIs.ptr_nil)) ?_
  refine TL_name 4 (v' := .bool true) rfl (by simp) ?_
  refine TL_y rfl rfl (Y_move rfl) ?_
  refine TL_grun rfl rfl ?_
  refine TL_y rfl rfl (Y_move rfl) ?_
  refine TL_grun rfl rfl ?_
  refine TL_y rfl rfl (Y_nil_check rfl) ?_
  refine TL_grun rfl rfl ?_
  refine TL_y rfl rfl (Y_field_addr rfl) ?_
  refine TL_grun rfl rfl ?_
  refine TL_y rfl rfl (Y_load rfl rfl) ?_
  refine TL_grun rfl rfl ?_
  refine TL_y rfl rfl (Y_gt rfl rfl) ?_
  refine TL_name 10 (v' := .bool true) rfl (congrArg Value.bool (decide_eq_true (by omega))) ?_
  refine TL_y rfl rfl (Y_pick_t rfl rfl) ?_
  refine TL_y rfl rfl (Y_assign rfl) ?_
  refine TL_nil ?_
  refine T_ret ?_
  refine RetQ.gives (pr_close b s _ rfl hi) ?_
  exact RetG_1 (.inl rfl) rfl (ResV.tmp rfl) GivesTo.g (⟨rfl, rfl⟩)
theorem prMade_fresh {L : List HP} {b : Nat} {node nodes : Int} (h1 : 1 ≤ nodes ∧ nodes ≤ 7) : Fn Try.prog 76 #[.pointer (some ⟨b, 0, none⟩)] (cells b (freshC node nodes) 133 :: L) (fun v L' => v = .bool true ∧ L' = cells b (freshC node nodes) 133 :: L) := by
  refine Fn_enter Try.func76 rfl rfl rfl rfl ?_
  refine T_region ?_
  refine TL_y rfl rfl (Y_assign rfl) ?_
  refine TL_nil ?_
  refine T_region ?_
  refine TL_y rfl rfl (Y_move rfl) ?_
  refine TL_y rfl rfl (Y_unequal rfl rfl (EqIs.ptr_nil)) ?_
  refine TL_name 4 (v' := .bool true) rfl (by simp) ?_
  refine TL_y rfl rfl (Y_move rfl) ?_
  refine TL_grun rfl rfl ?_
  refine TL_y rfl rfl (Y_move rfl) ?_
  refine TL_grun rfl rfl ?_
  refine TL_y rfl rfl (Y_nil_check rfl) ?_
  refine TL_grun rfl rfl ?_
  refine TL_y rfl rfl (Y_field_addr rfl) ?_
  refine TL_grun rfl rfl ?_
  refine TL_y rfl rfl (Y_load rfl rfl) ?_
  refine TL_grun rfl rfl ?_
  refine TL_y rfl rfl (Y_gt rfl rfl) ?_
  refine TL_name 10 (v' := .bool true) rfl (congrArg Value.bool (decide_eq_true (by omega))) ?_
  refine TL_y rfl rfl (Y_pick_t rfl rfl) ?_
  refine TL_y rfl rfl (Y_assign rfl) ?_
  refine TL_nil ?_
  refine T_ret ?_
  exact RetG_1 (.inl rfl) rfl (ResV.tmp rfl) GivesTo.g (⟨rfl, rfl⟩)
theorem prStop_spec {L : List HP} {b : Nat} {p : PP} : Fn Try.prog 46 #[.pointer (some ⟨b, 0, none⟩)] (pr b p :: L) (fun v L' => v = .tuple #[] ∧ L' = pr b (ppStop p) :: L) := by
  refine Fn_enter Try.func46 rfl rfl rfl rfl ?_
  refine T_region ?_
  refine TL_y rfl rfl (Y_move rfl) ?_
  refine TL_pullk b ?_
  refine TL_call rfl rfl (prMade_spec) ?_
  rintro _ _ ⟨rfl, rfl⟩
  refine TL_nil ?_
  refine T_cond_pos rfl (rfl) ?_
  refine T_pr fun s hs hi => ?_
  subst hs
  have h1 : 1 ≤ s.nodes ∧ s.nodes ≤ 7 := hi.nodes
  refine T_region ?_
  refine TL_y rfl rfl (Y_move rfl) ?_
  refine TL_y rfl rfl (Y_move rfl) ?_
  refine TL_y rfl rfl (Y_move rfl) ?_
  refine TL_y rfl rfl (Y_move rfl) ?_
  refine TL_y rfl rfl (Y_build rfl rfl) ?_
  refine TL_y rfl rfl (Y_nil_check rfl) ?_
  refine TL_y rfl rfl (Y_field_addr rfl) ?_
  refine TL_store rfl rfl rfl rfl rfl rfl ?_
  refine TL_y rfl rfl (Y_nil_check rfl) ?_
  refine TL_y rfl rfl (Y_field_addr rfl) ?_
  refine TL_store rfl rfl rfl rfl rfl rfl ?_
  refine TL_y rfl rfl (Y_nil_check rfl) ?_
  refine TL_y rfl rfl (Y_field_addr rfl) ?_
  refine TL_store rfl rfl rfl rfl rfl rfl ?_
  refine TL_y rfl rfl (Y_nil_check rfl) ?_
  refine TL_y rfl rfl (Y_field_addr rfl) ?_
  refine TL_store rfl rfl rfl rfl rfl rfl ?_
  refine TL_nil ?_
  refine T_seq ?_
  refine T_region ?_
  refine TL_y rfl rfl (Y_move rfl) ?_
  refine TL_y rfl rfl (Y_nil_check rfl) ?_
  refine TL_y rfl rfl (Y_field_addr rfl) ?_
  refine TL_y rfl rfl (Y_load rfl rfl) ?_
  refine TL_y rfl rfl (Y_equal rfl rfl (EqIs.map_nil)) ?_
  refine TL_nil ?_
  refine T_cond_neg rfl (rfl) ?_
  refine T_skip ?_
  refine thenS_normal ?_
  refine T_region ?_
  refine TL_y rfl rfl (Y_move rfl) ?_
  refine TL_y rfl rfl (Y_nil_check rfl) ?_
  refine TL_y rfl rfl (Y_field_addr rfl) ?_
  refine TL_y rfl rfl (Y_load rfl rfl) ?_
  refine TL_clear0 rfl ?_
  refine TL_nil ?_
  refine T_region_last ?_
  refine TL_y rfl rfl (Y_move rfl) ?_
  refine TL_y rfl rfl (Y_move rfl) ?_
  refine TL_y rfl rfl (Y_nil_check rfl) ?_
  refine TL_y rfl rfl (Y_field_addr rfl) ?_
  refine TL_y rfl rfl (Y_load rfl rfl) ?_
  refine TL_call rfl rfl (newVotes_ok h1 _) ?_
  rintro _ _ ⟨bt, rfl, rfl⟩
  refine TL_y rfl rfl (Y_move rfl) ?_
  refine TL_y rfl rfl (Y_extract rfl rfl) ?_
  refine TL_y rfl rfl (Y_extract rfl rfl) ?_
  refine TL_y rfl rfl (Y_nil_check rfl) ?_
  refine TL_y rfl rfl (Y_field_addr rfl) ?_
  refine TL_store rfl rfl rfl rfl rfl rfl ?_
  refine TL_nil ?_
  refine RetQ.gives (osl_nil votedR 50 none _) ?_
  refine RetQ.gives (show Gives _ (flH [] s.nodes :: _) from unS_close (L := ([] : List HP))) ?_
  refine RetQ.gives (pr_close b ⟨s.node, s.nodes, 0, (0, 0), s.seen, s.frm, 0, bt, no7, none, 0, [], s.bm, []⟩ (ppStop s.pl) rfl (ppStop_I hi)) ?_
  exact RetG_0 (.inr rfl) rfl GivesTo.g (⟨rfl, rfl⟩)
theorem prStop_fresh {L : List HP} {b : Nat} {node nodes : Int} (h1 : 1 ≤ nodes ∧ nodes ≤ 7) (h2 : 0 ≤ node ∧ node < nodes) : Fn Try.prog 46 #[.pointer (some ⟨b, 0, none⟩)] (cells b (freshC node nodes) 133 :: L) (fun v L' => v = .tuple #[] ∧ L' = pr b (ppNew node nodes) :: L) := by
  refine Fn_enter Try.func46 rfl rfl rfl rfl ?_
  refine T_region ?_
  refine TL_y rfl rfl (Y_move rfl) ?_
  refine TL_pullc b ?_
  refine TL_call rfl rfl (prMade_fresh h1) ?_
  rintro _ _ ⟨rfl, rfl⟩
  refine TL_nil ?_
  refine T_cond_pos rfl (rfl) ?_
  refine T_region ?_
  refine TL_y rfl rfl (Y_move rfl) ?_
  refine TL_y rfl rfl (Y_move rfl) ?_
  refine TL_y rfl rfl (Y_move rfl) ?_
  refine TL_y rfl rfl (Y_move rfl) ?_
  refine TL_y rfl rfl (Y_build rfl rfl) ?_
  refine TL_y rfl rfl (Y_nil_check rfl) ?_
  refine TL_y rfl rfl (Y_field_addr rfl) ?_
  refine TL_store rfl rfl rfl rfl rfl rfl ?_
  refine TL_y rfl rfl (Y_nil_check rfl) ?_
  refine TL_y rfl rfl (Y_field_addr rfl) ?_
  refine TL_store rfl rfl rfl rfl rfl rfl ?_
  refine TL_y rfl rfl (Y_nil_check rfl) ?_
  refine TL_y rfl rfl (Y_field_addr rfl) ?_
  refine TL_store rfl rfl rfl rfl rfl rfl ?_
  refine TL_y rfl rfl (Y_nil_check rfl) ?_
  refine TL_y rfl rfl (Y_field_addr rfl) ?_
  refine TL_store rfl rfl rfl rfl rfl rfl ?_
  refine TL_nil ?_
  refine T_seq ?_
  refine T_region ?_
  refine TL_y rfl rfl (Y_move rfl) ?_
  refine TL_y rfl rfl (Y_nil_check rfl) ?_
  refine TL_y rfl rfl (Y_field_addr rfl) ?_
  refine TL_y rfl rfl (Y_load rfl rfl) ?_
  refine TL_y rfl rfl (Y_equal rfl rfl (EqIs.map_nil)) ?_
  refine TL_nil ?_
  refine T_cond_pos rfl (rfl) ?_
  refine T_region_last ?_
  refine TL_y rfl rfl (Y_move rfl) ?_
  refine TL_makeMap intK flR true rfl ?_
  intro bm
  refine TL_y rfl rfl (Y_nil_check rfl) ?_
  refine TL_y rfl rfl (Y_field_addr rfl) ?_
  refine TL_store rfl rfl rfl rfl rfl rfl ?_
  refine TL_nil ?_
  refine thenS_normal ?_
  refine T_region ?_
  refine TL_y rfl rfl (Y_move rfl) ?_
  refine TL_y rfl rfl (Y_nil_check rfl) ?_
  refine TL_y rfl rfl (Y_field_addr rfl) ?_
  refine TL_y rfl rfl (Y_load rfl rfl) ?_
  refine TL_clear0 rfl ?_
  refine TL_nil ?_
  refine T_region_last ?_
  refine TL_y rfl rfl (Y_move rfl) ?_
  refine TL_y rfl rfl (Y_move rfl) ?_
  refine TL_y rfl rfl (Y_nil_check rfl) ?_
  refine TL_y rfl rfl (Y_field_addr rfl) ?_
  refine TL_y rfl rfl (Y_load rfl rfl) ?_
  refine TL_call rfl rfl (newVotes_ok h1 _) ?_
  rintro _ _ ⟨bt, rfl, rfl⟩
  refine TL_y rfl rfl (Y_move rfl) ?_
  refine TL_y rfl rfl (Y_extract rfl rfl) ?_
  refine TL_y rfl rfl (Y_extract rfl rfl) ?_
  refine TL_y rfl rfl (Y_nil_check rfl) ?_
  refine TL_y rfl rfl (Y_field_addr rfl) ?_
  refine TL_store rfl rfl rfl rfl rfl rfl ?_
  refine TL_nil ?_
  refine RetQ.gives (osl_nil votedR 50 none _) ?_
  refine RetQ.gives (show Gives _ (flH [] nodes :: _) from unS_close (L := ([] : List HP))) ?_
  refine RetQ.gives (pr_close b ⟨node, nodes, 0, (0, 0), (0, 0), 0, 0, bt, no7, none, 0, [], bm, []⟩ (ppNew node nodes) rfl (ppNew_I h1 h2)) ?_
  exact RetG_0 (.inr rfl) rfl GivesTo.g (⟨rfl, rfl⟩)
theorem prNew_ok {node nodes : Int} (h1 : 1 ≤ nodes ∧ nodes ≤ 7) (h2 : 0 ≤ node ∧ node < nodes) (L : List HP) : Fn Try.prog 36 #[.int .i64 node, .int .i64 nodes] L (fun v L' => ∃ b, v = .tuple #[.pointer (some ⟨b, 0, none⟩), .int .i64 0] ∧ L' = pr b (ppNew node nodes) :: L) := by
  refine Fn_enter Try.func36 rfl rfl rfl rfl ?_
  refine T_region ?_
  refine TL_y rfl rfl (Y_assign rfl) ?_
  refine TL_y rfl rfl (Y_assign rfl) ?_
  refine TL_nil ?_
  refine T_seq ?_
  refine T_region ?_
  refine TL_y rfl rfl (Y_move rfl) ?_
  refine TL_y rfl rfl (Y_lt rfl rfl) ?_
  refine TL_name 8 (v' := .bool false) rfl (congrArg Value.bool (decide_eq_false (by omega))) ?_
  refine TL_y rfl rfl (Y_move rfl) ?_
  refine TL_grun rfl rfl ?_
  refine TL_y rfl rfl (Y_move rfl) ?_
  refine TL_grun rfl rfl ?_
  refine TL_y rfl rfl (Y_gt rfl rfl) ?_
  refine TL_name 11 (v' := .bool false) rfl (congrArg Value.bool (decide_eq_false (by omega))) ?_
  refine TL_y rfl rfl (Y_pick_f rfl rfl) ?_
  refine TL_y rfl rfl (Y_move rfl) ?_
  refine TL_grun rfl rfl ?_
  refine TL_y rfl rfl (Y_move rfl) ?_
  refine TL_grun rfl rfl ?_
  refine TL_y rfl rfl (Y_lt rfl rfl) ?_
  refine TL_name 15 (v' := .bool false) rfl (congrArg Value.bool (decide_eq_false (by omega))) ?_
  refine TL_y rfl rfl (Y_pick_f rfl rfl) ?_
  refine TL_y rfl rfl (Y_move rfl) ?_
  refine TL_grun rfl rfl ?_
  refine TL_y rfl rfl (Y_move rfl) ?_
  refine TL_grun rfl rfl ?_
  refine TL_y rfl rfl (Y_move rfl) ?_
  refine TL_grun rfl rfl ?_
  refine TL_y rfl rfl (Y_ge rfl rfl) ?_
  refine TL_name 20 (v' := .bool false) rfl (congrArg Value.bool (decide_eq_false (by omega))) ?_
  refine TL_y rfl rfl (Y_pick_f rfl rfl) ?_
  refine TL_nil ?_
  refine T_cond_false rfl ?_
  refine T_skip ?_
  refine thenS_normal ?_
  refine T_region ?_
  refine TL_y rfl rfl (Y_move rfl) ?_
  refine TL_y rfl rfl (Y_move rfl) ?_
  refine TL_y rfl rfl (Y_build rfl rfl) ?_
  refine TL_box rfl rfl rfl ?_
  intro b25
  refine TL_y rfl rfl (Y_assign rfl) ?_
  refine TL_nil ?_
  refine T_region ?_
  refine TL_y rfl rfl (Y_move rfl) ?_
  refine TL_call rfl rfl (prStop_fresh h1 h2) ?_
  rintro _ _ ⟨rfl, rfl⟩
  refine TL_nil ?_
  refine T_region ?_
  refine TL_y rfl rfl (Y_move rfl) ?_
  refine TL_y rfl rfl (Y_assign rfl) ?_
  refine TL_y rfl rfl (Y_assign rfl) ?_
  refine TL_nil ?_
  refine T_ret ?_
  exact RetG_2 (.inl rfl) rfl (ResV.tmp rfl) (ResV.tmp rfl) GivesTo.g (⟨b25, rfl, rfl⟩)
theorem prPhase_spec {L : List HP} {b : Nat} {p : PP} : Fn Try.prog 41 #[.pointer (some ⟨b, 0, none⟩)] (pr b p :: L) (fun v L' => v = .int .i64 p.phase ∧ L' = pr b p :: L) := by
  refine Fn_enter Try.func41 rfl rfl rfl rfl ?_
  refine T_region ?_
  refine TL_y rfl rfl (Y_assign rfl) ?_
  refine TL_nil ?_
  refine T_seq ?_
  refine T_region ?_
  refine TL_y rfl rfl (Y_move rfl) ?_
  refine TL_pullk b ?_
  refine TL_call rfl rfl (prMade_spec) ?_
  rintro _ _ ⟨rfl, rfl⟩
  refine TL_name 4 (v' := .bool true) rfl (rfl) ?_
  refine TL_y rfl rfl (Y_not_t rfl) ?_
  refine TL_nil ?_
  refine T_cond_false rfl ?_
  refine T_skip ?_
  refine thenS_normal ?_
  refine T_pullk b ?_
  refine T_pr fun s hs hi => ?_
  subst hs
  refine T_region ?_
  refine TL_y rfl rfl (Y_move rfl) ?_
  refine TL_y rfl rfl (Y_nil_check rfl) ?_
  refine TL_y rfl rfl (Y_field_addr rfl) ?_
  refine TL_y rfl rfl (Y_load rfl rfl) ?_
  refine TL_y rfl rfl (Y_assign rfl) ?_
  refine TL_nil ?_
  refine T_ret ?_
  refine RetQ.gives (pr_close b s _ rfl hi) ?_
  exact RetG_1 (.inl rfl) rfl (ResV.tmp rfl) GivesTo.g (⟨rfl, rfl⟩)
theorem prCopied_spec {L : List HP} {A : Option Addr} {c : Nat} (e : EntryD) (hk : SlN L (intR .i64) A c e.order.cut) (ho : orderOk' e.order) : Fn Try.prog 86 #[.agg (List.toArray (entryC e (A, c)))] L (fun r L' => ∃ p, r = .agg (List.toArray (entryC e p)) ∧ L' = osl (intR .i64) 3 p.1 p.2 e.order.cut :: L) := by
  refine Fn_enter Try.func86 rfl rfl rfl rfl ?_
  refine T_region ?_
  refine TL_box rfl rfl rfl ?_
  intro b1
  refine TL_alloc rfl rfl ?_
  intro b2
  refine TL_nil ?_
  refine T_region ?_
  refine TL_y rfl rfl (Y_field_addr rfl) ?_
  refine TL_y rfl rfl (Y_field_addr rfl) ?_
  refine TL_y rfl rfl (Y_load rfl rfl) ?_
  refine TL_call rfl rfl (cloneN_spec hk.tail.tail (by have := ho.2.2.2; omega)) ?_
  rintro _ _ ⟨A6, c6, rfl, rfl⟩
  refine TL_y rfl rfl (Y_field_addr rfl) ?_
  refine TL_y rfl rfl (Y_field_addr rfl) ?_
  refine TL_store rfl rfl rfl rfl rfl rfl ?_
  refine TL_nil ?_
  refine T_region ?_
  refine TL_y rfl rfl (Y_load_agg rfl rfl) ?_
  refine TL_store rfl rfl rfl rfl rfl rfl ?_
  refine TL_nil ?_
  refine T_ret ?_
  exact RetG_1 (.inl rfl) rfl (ResV.agg rfl rfl) GivesTo.g (⟨(A6, c6), rfl, rfl⟩)
theorem prIsBallot_spec (b : Int × Int) (L : List HP) : Fn Try.prog 77 #[balV b] L (fun v L' => v = .bool (decide (isBal b)) ∧ L' = L) := by
  refine Fn_enter Try.func77 rfl rfl rfl rfl ?_
  refine T_region ?_
  refine TL_box rfl rfl rfl ?_
  intro b1
  refine TL_y rfl rfl (Y_assign rfl) ?_
  refine TL_nil ?_
  refine T_region ?_
  refine TL_y rfl rfl (Y_field_addr rfl) ?_
  refine TL_y rfl rfl (Y_load rfl rfl) ?_
  refine TL_y rfl rfl (Y_ge rfl rfl) ?_
  refine TL_y rfl rfl (Y_move rfl) ?_
  refine TL_splitd 6 rfl (fun h6 => ?_) (fun h6 => ?_)
  · refine TL_grun rfl rfl ?_
    refine TL_y rfl rfl (Y_field_addr rfl) ?_
    refine TL_grun rfl rfl ?_
    refine TL_y rfl rfl (Y_load rfl rfl) ?_
    refine TL_grun rfl rfl ?_
    refine TL_y rfl rfl (Y_le rfl rfl) ?_
    refine TL_y rfl rfl (Y_pick_t rfl rfl) ?_
    refine TL_y rfl rfl (Y_move rfl) ?_
    refine TL_splitd 11 rfl (fun h11 => ?_) (fun h11 => ?_)
    · refine TL_grun rfl rfl ?_
      refine TL_y rfl rfl (Y_field_addr rfl) ?_
      refine TL_grun rfl rfl ?_
      refine TL_y rfl rfl (Y_load rfl rfl) ?_
      refine TL_grun rfl rfl ?_
      refine TL_y rfl rfl (Y_ge rfl rfl) ?_
      refine TL_y rfl rfl (Y_pick_t rfl rfl) ?_
      refine TL_y rfl rfl (Y_move rfl) ?_
      refine TL_splitd 16 rfl (fun h16 => ?_) (fun h16 => ?_)
      · refine TL_grun rfl rfl ?_
        refine TL_y rfl rfl (Y_field_addr rfl) ?_
        refine TL_grun rfl rfl ?_
        refine TL_y rfl rfl (Y_load rfl rfl) ?_
        refine TL_grun rfl rfl ?_
        refine TL_y rfl rfl (Y_lt rfl rfl) ?_
        refine TL_y rfl rfl (Y_pick_t rfl rfl) ?_
        refine TL_y rfl rfl (Y_assign rfl) ?_
        refine TL_nil ?_
        refine T_ret ?_
        exact RetG_1 (.inl rfl) rfl (ResV.tmp rfl) GivesTo.g (⟨congrArg Value.bool (decide_eq_decide.2 ⟨fun h => ⟨h6, h11, h16, h⟩, fun h : isBal b => h.2.2.2⟩), rfl⟩)
      · refine TL_gskip rfl rfl rfl rfl ?_
        refine TL_gskip rfl rfl rfl rfl ?_
        refine TL_gskip rfl rfl rfl rfl ?_
        refine TL_y rfl rfl (Y_pick_f rfl rfl) ?_
        refine TL_y rfl rfl (Y_assign rfl) ?_
        refine TL_nil ?_
        refine T_ret ?_
        exact RetG_1 (.inl rfl) rfl (ResV.tmp rfl) GivesTo.g (⟨congrArg Value.bool (decide_eq_false (fun h : isBal b => h16 h.2.2.1)).symm, rfl⟩)
    · refine TL_gskip rfl rfl rfl rfl ?_
      refine TL_gskip rfl rfl rfl rfl ?_
      refine TL_gskip rfl rfl rfl rfl ?_
      refine TL_y rfl rfl (Y_pick_f rfl rfl) ?_
      refine TL_y rfl rfl (Y_move rfl) ?_
      refine TL_gskip rfl rfl rfl rfl ?_
      refine TL_gskip rfl rfl rfl rfl ?_
      refine TL_gskip rfl rfl rfl rfl ?_
      refine TL_y rfl rfl (Y_pick_f rfl rfl) ?_
      refine TL_y rfl rfl (Y_assign rfl) ?_
      refine TL_nil ?_
      refine T_ret ?_
      exact RetG_1 (.inl rfl) rfl (ResV.tmp rfl) GivesTo.g (⟨congrArg Value.bool (decide_eq_false (fun h : isBal b => h11 h.2.1)).symm, rfl⟩)
  · refine TL_gskip rfl rfl rfl rfl ?_
    refine TL_gskip rfl rfl rfl rfl ?_
    refine TL_gskip rfl rfl rfl rfl ?_
    refine TL_y rfl rfl (Y_pick_f rfl rfl) ?_
    refine TL_y rfl rfl (Y_move rfl) ?_
    refine TL_gskip rfl rfl rfl rfl ?_
    refine TL_gskip rfl rfl rfl rfl ?_
    refine TL_gskip rfl rfl rfl rfl ?_
    refine TL_y rfl rfl (Y_pick_f rfl rfl) ?_
    refine TL_y rfl rfl (Y_move rfl) ?_
    refine TL_gskip rfl rfl rfl rfl ?_
    refine TL_gskip rfl rfl rfl rfl ?_
    refine TL_gskip rfl rfl rfl rfl ?_
    refine TL_y rfl rfl (Y_pick_f rfl rfl) ?_
    refine TL_y rfl rfl (Y_assign rfl) ?_
    refine TL_nil ?_
    refine T_ret ?_
    exact RetG_1 (.inl rfl) rfl (ResV.tmp rfl) GivesTo.g (⟨congrArg Value.bool (decide_eq_false (fun h : isBal b => h6 h.1)).symm, rfl⟩)
theorem prGreater_spec (a b : Int × Int) (L : List HP) : Fn Try.prog 79 #[balV a, balV b] L (fun v L' => v = balV (greaterB a b) ∧ L' = L) := by
  refine Fn_enter Try.func79 rfl rfl rfl rfl ?_
  refine T_region ?_
  refine TL_box rfl rfl rfl ?_
  intro b2
  refine TL_box rfl rfl rfl ?_
  intro b3
  refine TL_alloc rfl rfl ?_
  intro b4
  refine TL_nil ?_
  refine T_seq ?_
  refine T_region ?_
  refine TL_y rfl rfl (Y_load_agg rfl rfl) ?_
  refine TL_y rfl rfl (Y_load_agg rfl rfl) ?_
  refine TL_call rfl rfl (compare_spec a b _) ?_
  rintro _ _ ⟨rfl, rfl⟩
  refine TL_y rfl rfl (Y_lt rfl rfl) ?_
  refine TL_nil ?_
  refine T_if rfl (fun h8 => ?_) (fun h8 => ?_)
  · refine T_region ?_
    refine TL_y rfl rfl (Y_load_agg rfl rfl) ?_
    refine TL_store rfl rfl rfl rfl rfl rfl ?_
    refine TL_nil ?_
    refine T_ret ?_
    refine thenS_ret ?_
    exact RetG_1 (.inl rfl) rfl (ResV.agg rfl rfl) GivesTo.g (⟨by rw [greaterB, if_pos h8], rfl⟩)
  · refine T_skip ?_
    refine thenS_normal ?_
    refine T_region ?_
    refine TL_y rfl rfl (Y_load_agg rfl rfl) ?_
    refine TL_store rfl rfl rfl rfl rfl rfl ?_
    refine TL_nil ?_
    refine T_ret ?_
    exact RetG_1 (.inl rfl) rfl (ResV.agg rfl rfl) GivesTo.g (⟨by rw [greaterB, if_neg h8], rfl⟩)
end Go.SL
set_option linter.unusedVariables false
set_option linter.unusedSimpArgs false
namespace Go.SL
open Go Go.Proofs
theorem allK_succ (node nodes : Int) (m : MsgD) (bs : List Bool) (k : Nat) : allK node nodes m bs (k + 1) = allK node nodes m bs k ++ (if hasV bs nodes (k : Int) then [] else [toM m node (k : Int)]) := by
  simp only [allK, List.range_succ, List.filter_append, List.map_append]
  congr 1
  by_cases h : hasV bs nodes (k : Int) <;> simp [h]
theorem allK_len (node nodes : Int) (m : MsgD) (bs : List Bool) (k : Nat) : (allK node nodes m bs k).length ≤ k := by
  have := List.length_filter_le (fun i : Nat => !decide (hasV bs nodes (i : Int))) (List.range k)
  simpa [allK] using this
theorem sep_msg {L : List HP} {m : MsgD} {p : MsgP} (h : MsgK L m p) : Knows L (fun M => Sep [sl (intR .i64) p.cut.1 p.cut.2 m.en.order.cut, sl votedR p.voted.1 p.voted.2 m.voted, sl (intR .i64) p.seen.1 p.seen.2 m.seen, sl eventR p.events.1 p.events.2 m.events] M Mem.emp) := (Knows.and (Knows.and h.cut h.voted) (Knows.and h.seen h.events)).mono fun M x => sl_cons x.1.1 (sl_cons x.1.2 (sl_cons x.2.1 (sl_cons x.2.2 trivial)))
structure AlSt where
  i : Nat
  A : Option Addr
  c : Nat
theorem prAll_spec {L : List HP} {b bv : Nat} {s : PrD} {bs : List Bool} (m : MsgD) (q : MsgP) (hn : 1 ≤ s.nodes ∧ s.nodes ≤ 7) (hb : bs.length = 7) (hk : MsgK L m q) (ho : orderOk' m.en.order) (hok : ∀ to : Int, 0 ≤ to → to < 7 → MsgOk (toM m s.node to)) : Fn Try.prog 108 #[.pointer (some ⟨b, 0, none⟩), .agg (List.toArray (msgC m q)), .func (.func 109) #[.pointer (some ⟨bv, 0, none⟩)] #[]] (cells b (prC s) 133 :: votes bv bs s.nodes :: L) (fun v L' => ∃ A c, v = .slice A (allK s.node s.nodes m bs s.nodes.toNat).length c ∧ L' = osl msgR 44 A c (allK s.node s.nodes m bs s.nodes.toNat) :: cells b (prC s) 133 :: votes bv bs s.nodes :: L) := by
  refine Fn_enter Try.func108 rfl rfl rfl rfl ?_
  refine T_region ?_
  refine TL_box rfl rfl rfl ?_
  intro b4
  refine TL_y rfl rfl (Y_assign rfl) ?_
  refine TL_nil ?_
  refine T_region ?_
  refine TL_y rfl rfl (Y_assign rfl) ?_
  refine TL_nil ?_
  refine T_seq ?_
  refine T_region ?_
  refine TL_y rfl rfl (Y_move rfl) ?_
  refine TL_y rfl rfl (Y_nil_check rfl) ?_
  refine TL_y rfl rfl (Y_field_addr rfl) ?_
  refine TL_y rfl rfl (Y_load rfl rfl) ?_
  refine TL_y rfl rfl (Y_move rfl) ?_
  refine TL_nil ?_
  refine T_block ?_
  refine T_loopK (σ := AlSt) [0, 2, 4, 13] (fun g => (g.i : Int) ≤ s.nodes) (fun g kv => (14, .int .i64 (g.i : Int)) :: (7, .slice g.A (allK s.node s.nodes m bs g.i).length g.c) :: kv) (fun g => osl msgR 44 g.A g.c (allK s.node s.nodes m bs g.i) :: cells b (prC s) 133 :: votes bv bs s.nodes :: cells b4 (msgC m q) 44 :: L) (fun g => 7 - g.i) (⟨0, none, 0⟩) rfl ((by simp only; omega)) (Gives.trans (osl_nil msgR 44 none _) (Gives.cons _ GivesTo.g)) (sub_cons rfl (sub_cons rfl (sub_cons rfl (sub_cons rfl (sub_cons rfl (sub_cons rfl (sub_nil))))))) ?_
  rintro ⟨i, A, c⟩ hi
  dsimp only at hi ⊢
  have hal := allK_len s.node s.nodes m bs i
  have hsu := allK_succ s.node s.nodes m bs i
  refine T_region ?_
  refine TL_y rfl rfl (Y_lt rfl rfl) ?_
  refine TL_nil ?_
  refine T_seq ?_
  refine T_if rfl (fun h15 => ?_) (fun h15 => ?_)
  · refine T_skip ?_
    refine thenS_normal ?_
    refine T_seq ?_
    refine T_block ?_
    refine T_region ?_
    refine TL_y rfl rfl (Y_move rfl) ?_
    refine TL_y rfl rfl (Y_assign rfl) ?_
    refine TL_nil ?_
    refine T_region ?_
    refine TL_y rfl rfl (Y_move rfl) ?_
    refine TL_y rfl rfl (Y_move rfl) ?_
    refine TL_pullc bv ?_
    refine TL_call_fn rfl rfl rfl (has_spec hb hn.2 (i : Int)) ?_
    rintro _ _ ⟨rfl, rfl⟩
    refine TL_y rfl rfl (Y_not_d rfl) ?_
    refine TL_nil ?_
    refine T_if rfl (fun h20 => ?_) (fun h20 => ?_)
    · refine T_region ?_
      refine TL_y rfl rfl (Y_load_agg rfl rfl) ?_
      refine TL_alloc rfl rfl ?_
      intro b9
      refine TL_store rfl rfl rfl rfl rfl rfl ?_
      refine TL_nil ?_
      refine T_region_draw (cells b (prC s) 133 :: cells b4 (msgC m q) 44 :: []) [0, 1, 3, 7, 0, 0, 32, 96, 15, 495, 1023, 2047, 4095, 8191] [] [(0, true), (1, true), (2, true), (3, true), (4, true), (5, true), (6, true), (8, true), (7, false), (9, false), (10, true), (11, false), (12, true), (13, false)] (by kernel_rfl) (by decide +kernel) GivesTo.g ?_
      refine TF_y rfl rfl (Y_move rfl) ?_
      refine TF_y rfl rfl (Y_nil_check rfl) ?_
      refine TF_y rfl rfl (Y_field_addr rfl) ?_
      refine TF_y rfl rfl (Y_load rfl rfl) ?_
      refine TF_y rfl rfl (Y_move rfl) ?_
      refine TF_y rfl rfl (Y_field_addr rfl) ?_
      refine TF_y rfl rfl (Y_load_agg rfl rfl) ?_
      refine TF_y rfl rfl (Y_field_addr rfl) ?_
      refine TF_anchor rfl ?_
      refine TL_call rfl rfl (prCopied_spec m.en (A := q.cut.1) (c := q.cut.2) (SlN.of_gives GivesTo.g hk.cut.n) ho) ?_
      rintro _ _ ⟨p29, rfl, rfl⟩
      refine TL_freeze_osl ?_
      refine TF_end GivesTo.g ?_
      refine TF_anchor rfl ?_
      refine TL_store rfl rfl rfl rfl rfl rfl ?_
      refine TF_end GivesTo.g ?_
      refine TF_y rfl rfl (Y_field_addr rfl) ?_
      refine TF_anchor rfl ?_
      refine TL_store rfl rfl rfl rfl rfl rfl ?_
      refine TF_end GivesTo.g ?_
      refine TF_y rfl rfl (Y_field_addr rfl) ?_
      refine TF_anchor rfl ?_
      refine TL_store rfl rfl rfl rfl rfl rfl ?_
      refine TF_end GivesTo.g ?_
      refine TF_nil ?_
      refine T_region_last ?_
      refine TL_y rfl rfl (Y_move rfl) ?_
      refine TL_y rfl rfl (Y_load_agg rfl rfl) ?_
      refine TL_build_slice rfl rfl rfl rfl rfl rfl ?_
      intro b35
      refine TL_osl (k := 1) msgR [toM m s.node (i : Int)] (cells_one' (ex_rep (⟨(p29.1, p29.2), q.voted, q.seen, q.events⟩ : MsgP) (sep_msg ⟨slk, SlK.of_gives GivesTo.g hk.voted, SlK.of_gives GivesTo.g hk.seen, SlK.of_gives GivesTo.g hk.events⟩) (hok _ (by omega) (by omega)))) rfl (by decide) ?_
      refine TL_freeze_osl ?_
      refine TL_name 35 (v' := .slice (some ⟨b35, 0, none⟩) [toM m s.node (i : Int)].length 1) rfl rfl ?_
      refine TL_append rfl rfl rfl rfl rfl slk (by simp only [List.length_cons, List.length_nil]; omega) ?_
      intro A36 c36
      rw [show allK s.node s.nodes m bs i ++ [toM m s.node (i : Int)] = allK s.node s.nodes m bs (i + 1) by rw [hsu, if_neg h20]]
      refine TL_y rfl rfl (Y_assign rfl) ?_
      refine TL_nil ?_
      refine inB_normal ?_
      refine thenS_normal ?_
      refine T_region_last ?_
      refine TL_y rfl rfl (Y_add rfl rfl (by omega)) ?_
      refine TL_name 37 (v' := .int .i64 ((i + 1 : Nat) : Int)) rfl (rfl) ?_
      refine TL_y rfl rfl (Y_move rfl) ?_
      refine TL_nil ?_
      refine thenS_normal ?_
      exact ⟨⟨i + 1, A36, c36⟩, (by simp only; omega), by simp only; omega, holds_to (sub_cons rfl (sub_cons rfl (sub_cons rfl (sub_cons rfl (sub_cons rfl (sub_cons rfl (sub_nil))))))) GivesTo.g⟩
    · refine T_skip ?_
      refine inB_normal ?_
      refine thenS_normal ?_
      refine T_region_last ?_
      refine TL_y rfl rfl (Y_add rfl rfl (by omega)) ?_
      refine TL_name 37 (v' := .int .i64 ((i + 1 : Nat) : Int)) rfl (rfl) ?_
      refine TL_y rfl rfl (Y_move rfl) ?_
      refine TL_nil ?_
      refine thenS_normal ?_
      rw [show allK s.node s.nodes m bs i = allK s.node s.nodes m bs (i + 1) by rw [hsu, if_pos (by simpa using h20)]; simp]
      exact ⟨⟨i + 1, A, c⟩, (by simp only; omega), by simp only; omega, holds_to (sub_cons rfl (sub_cons rfl (sub_cons rfl (sub_cons rfl (sub_cons rfl (sub_cons rfl (sub_nil))))))) GivesTo.g⟩
  · refine T_exit ?_
    refine thenS_exit ?_
    refine thenS_exit ?_
    refine inB_hit ?_
    refine thenS_normal ?_
    refine T_region ?_
    refine TL_y rfl rfl (Y_move rfl) ?_
    refine TL_y rfl rfl (Y_assign rfl) ?_
    refine TL_nil ?_
    refine T_ret ?_
    obtain rfl : i = s.nodes.toNat := by omega
    exact RetG_1 (.inl rfl) rfl (ResV.tmp rfl) GivesTo.g (⟨A, c, rfl, rfl⟩)
end Go.SL
