/- What the laws of this claim need, together: the logic, data in memory, the walks of functions. -/
import Derived.Test.YtibejpgjgkeheaaGreatKrD
set_option linter.unusedVariables false
set_option linter.unusedSimpArgs false
set_option linter.unusedVariables false
set_option linter.unusedSimpArgs false
namespace Go.SL
open Go Go.Proofs
theorem en_eq {a b : EntryD} : a = b ↔ a.noop = b.noop ∧ a.order.token = b.order.token ∧ a.order.cart = b.order.cart ∧ a.order.epoch = b.order.epoch ∧ a.order.cut = b.order.cut := by
  obtain ⟨a1, a2, a3, a4, a5⟩ := a
  obtain ⟨b1, b2, b3, b4, b5⟩ := b
  simp
set_option maxHeartbeats 4000000 in
set_option maxRecDepth 20000 in
theorem acJudge_accS {L : List HP} {b : Nat} {s : AccD} (m : MsgD) (p : MsgP) (hx : MsgOk m) (hk : MsgK L m p) (hc : cMsg m ≤ 140737488355328) (hm : mineA s m) (h3 : m.kind = 3) {u : VotedD} (hg : getM (vmap s.V) m.slot = some u) : Fn Tryz.prog 14 #[.pointer (some ⟨b, 0, none⟩), .agg (List.toArray (msgC m p))] (ac b s :: L) (fun v L' => v = judgeV s m ∧ L' = ac b s :: L) := by
  refine Fn_enter Tryz.func14 rfl rfl rfl rfl ?_
  refine T_region ?_
  refine TL_box rfl rfl rfl ?_
  intro b3
  refine TL_alloc rfl rfl ?_
  intro b4
  refine TL_nil ?_
  refine T_region ?_
  refine TL_y rfl rfl (Y_load_agg rfl rfl) ?_
  refine TL_call rfl rfl (msg_spec m p hx hk.tail.tail.tail hc) ?_
  rintro _ _ ⟨A16, c16, rfl, rfl⟩
  refine TL_y rfl rfl (Y_move rfl) ?_
  refine TL_y rfl rfl (Y_extract rfl rfl) ?_
  refine TL_y rfl rfl (Y_extract rfl rfl) ?_
  refine TL_y rfl rfl (Y_assign rfl) ?_
  refine TL_y rfl rfl (Y_assign rfl) ?_
  refine TL_nil ?_
  refine T_seq ?_
  refine T_region_draw _ [0, 1, 3, 7, 15, 31, 63, 127, 255, 511, 255, 1279, 3327, 7423, 16383, 32767, 65535, 131071, 262143, 524287, 1048575, 2097151, 4194303, 8388607, 16777215, 33554431] [] [(0, true), (1, false), (2, true), (3, true), (4, true), (5, true), (6, true), (7, true), (8, true), (9, true), (10, true), (11, true), (12, true), (13, true), (14, true), (15, true), (16, true), (17, true), (18, true), (19, true), (20, true), (21, true), (22, true), (23, true), (24, true), (25, true)] (by kernel_rfl) (by decide +kernel) (Gives.refl _) ?_
  refine TF_y rfl rfl (Y_move rfl) ?_
  refine TF_anchor rfl ?_
  refine TL_pullk b ?_
  refine TL_call rfl rfl (acMade_spec) ?_
  rintro _ _ ⟨rfl, rfl⟩
  refine TL_name 20 (v' := .bool true) rfl (rfl) ?_
  refine TF_end GivesTo.g ?_
  refine TF_y rfl rfl (Y_not_t rfl) ?_
  refine TF_y rfl rfl (Y_move rfl) ?_
  refine TF_gy rfl rfl rfl rfl (Y_move rfl) ?_
  refine TF_gy rfl rfl rfl rfl (Y_ne rfl rfl) ?_
  refine TF_name 24 (v' := .bool false) rfl (congrArg Value.bool (decide_eq_false (by have := hm.1; omega))) ?_
  refine TF_y rfl rfl (Y_pick_f rfl rfl) ?_
  refine TF_y rfl rfl (Y_move rfl) ?_
  refine TF_gy rfl rfl rfl rfl (Y_field_addr rfl) ?_
  refine TF_gy rfl rfl rfl rfl (Y_load rfl rfl) ?_
  refine TF_gy rfl rfl rfl rfl (Y_move rfl) ?_
  refine TF_gy rfl rfl rfl rfl (Y_nil_check rfl) ?_
  refine TF_gy rfl rfl rfl rfl (Y_field_addr rfl) ?_
  refine TF_gy rfl rfl rfl rfl (Y_ac (b := b) fun bt => Y_load rfl rfl) ?_
  refine TF_gy rfl rfl rfl rfl (Y_ne rfl rfl) ?_
  refine TF_name 33 (v' := .bool false) rfl (congrArg Value.bool (decide_eq_false (by have := hm.2.1; omega))) ?_
  refine TF_y rfl rfl (Y_pick_f rfl rfl) ?_
  refine TF_y rfl rfl (Y_move rfl) ?_
  refine TF_gy rfl rfl rfl rfl (Y_field_addr rfl) ?_
  refine TF_gy rfl rfl rfl rfl (Y_load rfl rfl) ?_
  refine TF_gy rfl rfl rfl rfl (Y_ne rfl rfl) ?_
  refine TF_name 38 (v' := .bool true) rfl (congrArg Value.bool (decide_eq_true (by omega))) ?_
  refine TF_gy rfl rfl rfl rfl (Y_move rfl) ?_
  refine TF_gy rfl rfl rfl rfl (Y_field_addr rfl) ?_
  refine TF_gy rfl rfl rfl rfl (Y_load rfl rfl) ?_
  refine TF_gy rfl rfl rfl rfl (Y_ne rfl rfl) ?_
  refine TF_name 42 (v' := .bool false) rfl (congrArg Value.bool (decide_eq_false (by omega))) ?_
  refine TF_gy rfl rfl rfl rfl (Y_pick_t rfl rfl) ?_
  refine TF_y rfl rfl (Y_pick_f rfl rfl) ?_
  refine TF_nil ?_
  refine T_cond_false rfl ?_
  refine T_skip ?_
  refine thenS_normal ?_
  refine T_pullk b ?_
  refine T_ac fun bt hi => ?_
  refine T_rd [0, 1, 3, 7, 0, 16, 63, 127, 255, 255, 0, 1535, 4095] (by kernel_rfl) (by decide +kernel) ?_
  refine RD_pair 6 10 (by decide) ?_ ?_
  · refine RD_leaf _ [0, 1, 3, 7, 0, 16, 63, 127, 255, 255, 127, 1535, 4095] [] [(0, true), (1, true), (2, true), (3, true), (4, true), (5, true), (6, false), (7, true), (8, true), (9, true), (10, false), (11, false), (12, true)] (by decide +kernel) (Gives.refl _) ?_
    refine TF_y rfl rfl (Y_move rfl) ?_
    refine TF_y rfl rfl (Y_nil_check rfl) ?_
    refine TF_y rfl rfl (Y_field_addr rfl) ?_
    refine TF_y rfl rfl (Y_load rfl rfl) ?_
    refine TF_y rfl rfl (Y_field_addr rfl) ?_
    refine TF_y rfl rfl (Y_load rfl rfl) ?_
    refine TF_anchor rfl ?_
    refine TL_lookup_okx (R := votedR) (k := m.slot) rfl rfl rfl hx.slot (fun hn => absurd hn (by rw [hg]; simp)) (fun u2 p2 hu hou => ?_)
    rw [hg] at hu
    obtain rfl := Option.some.inj hu
    simp only [List.cons_append, List.nil_append]
    refine TF_end GivesTo.g ?_
    refine TF_y rfl rfl (Y_move rfl) ?_
    refine TF_y rfl rfl (Y_extract rfl rfl) ?_
    refine TF_y rfl rfl (Y_extract rfl rfl) ?_
    refine TF_name 55 (v' := .bool true) rfl (rfl) ?_
    refine TF_anchor rfl ?_
    refine TL_alloc rfl rfl ?_
    intro b7
    refine TF_end GivesTo.g ?_
    refine TF_anchor rfl ?_
    refine TL_store rfl rfl rfl rfl rfl rfl ?_
    refine TF_end GivesTo.g ?_
    refine TF_y rfl rfl (Y_assign rfl) ?_
    refine TF_nil ?_
    refine thenS_normal ?_
    refine T_region ?_
    refine TL_y rfl rfl (Y_field_addr rfl) ?_
    refine TL_y rfl rfl (Y_load rfl rfl) ?_
    refine TL_y rfl rfl (Y_eq rfl rfl) ?_
    refine TL_name 58 (v' := .bool true) rfl (congrArg Value.bool (decide_eq_true h3)) ?_
    refine TL_y rfl rfl (Y_assign rfl) ?_
    refine TL_nil ?_
    refine T_seq ?_
    refine T_region_draw _ [0, 1, 0, 4, 12, 28, 63, 127, 255, 511, 1023, 2047, 4095, 8191, 16383, 32767, 65535, 131071, 262143, 524287, 1048575, 2097151, 4194303] [] [(0, true), (1, true), (2, true), (3, true), (4, true), (5, true), (6, false), (7, true), (8, true), (9, true), (10, true), (11, true), (12, true), (13, true), (14, true), (15, true), (16, true), (17, true), (18, true), (19, true), (20, true), (21, true), (22, true)] (by kernel_rfl) (by decide +kernel) (Gives.refl _) ?_
    refine TF_y rfl rfl (Y_field_addr rfl) ?_
    refine TF_y rfl rfl (Y_load_agg rfl rfl) ?_
    refine TF_y rfl rfl (Y_move rfl) ?_
    refine TF_y rfl rfl (Y_nil_check rfl) ?_
    refine TF_y rfl rfl (Y_field_addr rfl) ?_
    refine TF_y rfl rfl (Y_load_agg rfl rfl) ?_
    refine TF_anchor rfl ?_
    refine TL_call rfl rfl (compare_spec m.bal s.prom _) ?_
    rintro _ _ ⟨rfl, rfl⟩
    refine TF_end GivesTo.g ?_
    refine TF_y rfl rfl (Y_lt rfl rfl) ?_
    refine TF_y rfl rfl (Y_move rfl) ?_
    refine TF_splitd 67 rfl (fun h67 => ?_) (fun h67 => ?_)
    · refine TF_gskip rfl rfl rfl rfl rfl ?_
      refine TF_gskip rfl rfl rfl rfl rfl ?_
      refine TF_gskip_u rfl rfl rfl rfl ?_
      refine TF_gskip_u rfl rfl rfl rfl ?_
      refine TF_gskip rfl rfl rfl rfl rfl ?_
      refine TF_gskip rfl rfl rfl rfl rfl ?_
      refine TF_gskip_u rfl rfl rfl rfl ?_
      refine TF_gskip_u rfl rfl rfl rfl ?_
      refine TF_gskip_u rfl rfl rfl rfl ?_
      refine TF_gskip_u rfl rfl rfl rfl ?_
      refine TF_gskip_u rfl rfl rfl rfl ?_
      refine TF_gskip_u rfl rfl rfl rfl ?_
      refine TF_gskip rfl rfl rfl rfl rfl ?_
      refine TF_y rfl rfl (Y_pick_t rfl rfl) ?_
      refine TF_nil ?_
      refine T_cond_true rfl ?_
      refine T_region ?_
      refine TL_y rfl rfl (Y_build rfl rfl) ?_
      refine TL_store rfl rfl rfl rfl rfl rfl ?_
      refine TL_nil ?_
      refine T_ret ?_
      refine thenS_ret ?_
      have hn : nackA s m := .inl (by omega)
      have hj : judgeV s m = .agg #[.string ⟨#[]⟩, .bool true, .bool true] := by unfold judgeV recA; rw [if_neg (fun h => h.2.1 hn), decide_eq_true hm, decide_eq_true (And.intro hm hn)]
      rw [hj]
      refine RetQ.gives (ac_close b s hi) ?_
      exact RetG_1 (.inl rfl) rfl (ResV.agg rfl rfl) GivesTo.g (⟨rfl, rfl⟩)
    · refine TF_gy rfl rfl rfl rfl (Y_move rfl) ?_
      refine TF_gy rfl rfl rfl rfl (Y_move rfl) ?_
      refine TF_gy rfl rfl rfl rfl (Y_move rfl) ?_
      refine TF_gy rfl rfl rfl rfl (Y_not_t rfl) ?_
      refine TF_gy rfl rfl rfl rfl (Y_pick_t rfl rfl) ?_
      refine TF_gy rfl rfl rfl rfl (Y_move rfl) ?_
      refine TF_gskip rfl rfl rfl rfl rfl ?_
      refine TF_gskip rfl rfl rfl rfl rfl ?_
      refine TF_gskip rfl rfl rfl rfl rfl ?_
      refine TF_gskip rfl rfl rfl rfl rfl ?_
      refine TF_gskip rfl rfl rfl rfl rfl ?_
      refine TF_gskip rfl rfl rfl rfl rfl ?_
      refine TF_gy rfl rfl rfl rfl (Y_pick_f rfl rfl) ?_
      refine TF_y rfl rfl (Y_pick_f rfl rfl) ?_
      refine TF_nil ?_
      refine T_cond_false rfl ?_
      refine T_skip ?_
      refine thenS_normal ?_
      have hn : ¬ nackA s m := by unfold nackA; rw [hg]; rintro (h | ⟨_, h, _⟩); omega; cases h
      have hkey : u = newV m ↔ u.bal = m.bal ∧ u.en = m.en := by have hus := (vmap_get hg).2; obtain ⟨u1, u2, u3⟩ := u; dsimp only at hus; subst hus; simp [newV]
      refine T_region_draw _ [0, 1, 3, 7, 0, 16, 63, 127] [] [(0, true), (1, true), (2, true), (3, true), (4, true), (5, true), (6, true), (7, true)] (by kernel_rfl) (by decide +kernel) (Gives.refl _) ?_
      refine TF_y rfl rfl (Y_move rfl) ?_
      refine TF_y rfl rfl (Y_nil_check rfl) ?_
      refine TF_y rfl rfl (Y_field_addr rfl) ?_
      refine TF_y rfl rfl (Y_load_agg rfl rfl) ?_
      refine TF_y rfl rfl (Y_field_addr rfl) ?_
      refine TF_y rfl rfl (Y_load_agg rfl rfl) ?_
      refine TF_y rfl rfl (Y_ne_bal rfl rfl) ?_
      refine TF_name 89 (v' := .bool (decide (s.prom ≠ m.bal))) rfl (by by_cases h : s.prom = m.bal <;> simp [h]) ?_
      refine TF_y rfl rfl (Y_assign rfl) ?_
      refine TF_nil ?_
      refine T_seq ?_
      refine T_region ?_
      refine TL_y rfl rfl (Y_move rfl) ?_
      refine TL_nil ?_
      refine T_cond_true rfl ?_
      refine T_rd [0, 1, 3, 0, 8, 24, 0, 0, 199, 511] (by kernel_rfl) (by decide +kernel) ?_
      refine RD_pair 6 7 (by decide) ?_ ?_
      · refine RD_leaf _ [0, 1, 3, 0, 8, 24, 0, 64, 199, 511] [] [(0, true), (1, true), (2, true), (3, true), (4, true), (5, true), (6, false), (7, false), (8, false), (9, false)] (by decide +kernel) (Gives.refl _) ?_
        refine TF_y rfl rfl (Y_field_addr rfl) ?_
        refine TF_y rfl rfl (Y_field_addr rfl) ?_
        refine TF_y rfl rfl (Y_load_agg rfl rfl) ?_
        refine TF_y rfl rfl (Y_field_addr rfl) ?_
        refine TF_y rfl rfl (Y_field_addr rfl) ?_
        refine TF_y rfl rfl (Y_load_agg rfl rfl) ?_
        refine TF_anchor rfl ?_
        refine TL_alloc rfl rfl ?_
        intro b11
        refine TF_end GivesTo.g ?_
        refine TF_anchor rfl ?_
        refine TL_alloc rfl rfl ?_
        intro b12
        refine TF_end GivesTo.g ?_
        refine TF_anchor rfl ?_
        refine TL_store rfl rfl rfl rfl rfl rfl ?_
        refine TF_end GivesTo.g ?_
        refine TF_anchor rfl ?_
        refine TL_store rfl rfl rfl rfl rfl rfl ?_
        refine TF_end GivesTo.g ?_
        refine TF_nil ?_
        refine thenS_normal ?_
        refine T_region ?_
        refine TL_both 45 141 (u.bal = m.bal ∧ u.en = m.en) ?_ ?_
        · refine TL_y rfl rfl (Y_move rfl) ?_
          refine TL_y rfl rfl (Y_move rfl) ?_
          refine TL_grun rfl rfl ?_
          refine TL_y rfl rfl (Y_field_addr rfl) ?_
          refine TL_grun rfl rfl ?_
          refine TL_y rfl rfl (Y_load_agg rfl rfl) ?_
          refine TL_grun rfl rfl ?_
          refine TL_y rfl rfl (Y_field_addr rfl) ?_
          refine TL_grun rfl rfl ?_
          refine TL_y rfl rfl (Y_load_agg rfl rfl) ?_
          refine TL_grun rfl rfl ?_
          refine TL_y rfl rfl (Y_eq_bal rfl rfl) ?_
          refine TL_y rfl rfl (Y_pick_t rfl rfl) ?_
          refine TL_y rfl rfl (Y_move rfl) ?_
          refine TL_splitd 105 rfl (fun h105 => ?_) (fun h105 => ?_)
          · refine TL_grun rfl rfl ?_
            refine TL_y rfl rfl (Y_field_addr rfl) ?_
            refine TL_grun rfl rfl ?_
            refine TL_y rfl rfl (Y_field_addr rfl) ?_
            refine TL_grun rfl rfl ?_
            refine TL_y rfl rfl (Y_load rfl rfl) ?_
            refine TL_grun rfl rfl ?_
            refine TL_y rfl rfl (Y_field_addr rfl) ?_
            refine TL_grun rfl rfl ?_
            refine TL_y rfl rfl (Y_field_addr rfl) ?_
            refine TL_grun rfl rfl ?_
            refine TL_y rfl rfl (Y_load rfl rfl) ?_
            refine TL_grun rfl rfl ?_
            refine TL_y rfl rfl (Y_equal rfl rfl (EqIs.bool)) ?_
            refine TL_name 112 (v' := .bool (decide (u.en.noop = m.en.noop))) rfl (by cases u.en.noop <;> cases m.en.noop <;> rfl) ?_
            refine TL_y rfl rfl (Y_pick_t rfl rfl) ?_
            refine TL_y rfl rfl (Y_move rfl) ?_
            refine TL_splitd 114 rfl (fun h114 => ?_) (fun h114 => ?_)
            · refine TL_grun rfl rfl ?_
              refine TL_y rfl rfl (Y_field_addr rfl) ?_
              refine TL_grun rfl rfl ?_
              refine TL_y rfl rfl (Y_load rfl rfl) ?_
              refine TL_grun rfl rfl ?_
              refine TL_y rfl rfl (Y_field_addr rfl) ?_
              refine TL_grun rfl rfl ?_
              refine TL_y rfl rfl (Y_load rfl rfl) ?_
              refine TL_grun rfl rfl ?_
              refine TL_y rfl rfl (Y_str_eq rfl rfl) ?_
              refine TL_y rfl rfl (Y_pick_t rfl rfl) ?_
              refine TL_y rfl rfl (Y_move rfl) ?_
              refine TL_splitd 121 rfl (fun h121 => ?_) (fun h121 => ?_)
              · refine TL_grun rfl rfl ?_
                refine TL_y rfl rfl (Y_field_addr rfl) ?_
                refine TL_grun rfl rfl ?_
                refine TL_y rfl rfl (Y_load rfl rfl) ?_
                refine TL_grun rfl rfl ?_
                refine TL_y rfl rfl (Y_field_addr rfl) ?_
                refine TL_grun rfl rfl ?_
                refine TL_y rfl rfl (Y_load rfl rfl) ?_
                refine TL_grun rfl rfl ?_
                refine TL_y rfl rfl (Y_str_eq rfl rfl) ?_
                refine TL_y rfl rfl (Y_pick_t rfl rfl) ?_
                refine TL_y rfl rfl (Y_move rfl) ?_
                refine TL_splitd 128 rfl (fun h128 => ?_) (fun h128 => ?_)
                · refine TL_grun rfl rfl ?_
                  refine TL_y rfl rfl (Y_field_addr rfl) ?_
                  refine TL_grun rfl rfl ?_
                  refine TL_y rfl rfl (Y_load rfl rfl) ?_
                  refine TL_grun rfl rfl ?_
                  refine TL_y rfl rfl (Y_field_addr rfl) ?_
                  refine TL_grun rfl rfl ?_
                  refine TL_y rfl rfl (Y_load rfl rfl) ?_
                  refine TL_grun rfl rfl ?_
                  refine TL_y rfl rfl (Y_eq rfl rfl) ?_
                  refine TL_y rfl rfl (Y_pick_t rfl rfl) ?_
                  refine TL_y rfl rfl (Y_move rfl) ?_
                  refine TL_splitd 135 rfl (fun h135 => ?_) (fun h135 => ?_)
                  · refine TL_grun rfl rfl ?_
                    refine TL_y rfl rfl (Y_field_addr rfl) ?_
                    refine TL_grun rfl rfl ?_
                    refine TL_y rfl rfl (Y_load rfl rfl) ?_
                    refine TL_grun rfl rfl ?_
                    refine TL_y rfl rfl (Y_field_addr rfl) ?_
                    refine TL_grun rfl rfl ?_
                    refine TL_y rfl rfl (Y_load rfl rfl) ?_
                    refine TL_grun rfl rfl ?_
                    refine TL_call rfl rfl (equalInts_spec sln (SlN.of_gives GivesTo.g hk.cut.n)) ?_
                    rintro _ _ ⟨rfl, rfl⟩
                    refine TL_y rfl rfl (Y_pick_t rfl rfl) ?_
                    refine TL_chain_end rfl ?_ (by repeat (first | exact sub_refl | refine sub_ext rfl ?_)) GivesTo.g
                    exact congrArg Value.bool (decide_eq_decide.2 (by rw [en_eq]; simp_all))
                  · refine TL_gskip rfl rfl rfl rfl ?_
                    refine TL_gskip rfl rfl rfl rfl ?_
                    refine TL_gskip rfl rfl rfl rfl ?_
                    refine TL_gskip rfl rfl rfl rfl ?_
                    refine TL_gskip rfl rfl rfl rfl ?_
                    refine TL_y rfl rfl (Y_pick_f rfl rfl) ?_
                    refine TL_chain_end rfl ?_ (by repeat (first | exact sub_refl | refine sub_ext rfl ?_)) GivesTo.g
                    exact congrArg Value.bool (decide_eq_false (by rw [en_eq]; simp_all)).symm
                · refine TL_gskip rfl rfl rfl rfl ?_
                  refine TL_gskip rfl rfl rfl rfl ?_
                  refine TL_gskip rfl rfl rfl rfl ?_
                  refine TL_gskip rfl rfl rfl rfl ?_
                  refine TL_gskip rfl rfl rfl rfl ?_
                  refine TL_y rfl rfl (Y_pick_f rfl rfl) ?_
                  refine TL_y rfl rfl (Y_move rfl) ?_
                  refine TL_gskip rfl rfl rfl rfl ?_
                  refine TL_gskip rfl rfl rfl rfl ?_
                  refine TL_gskip rfl rfl rfl rfl ?_
                  refine TL_gskip rfl rfl rfl rfl ?_
                  refine TL_gskip rfl rfl rfl rfl ?_
                  refine TL_y rfl rfl (Y_pick_f rfl rfl) ?_
                  refine TL_chain_end rfl ?_ (by repeat (first | exact sub_refl | refine sub_ext rfl ?_)) GivesTo.g
                  exact congrArg Value.bool (decide_eq_false (by rw [en_eq]; simp_all)).symm
              · refine TL_gskip rfl rfl rfl rfl ?_
                refine TL_gskip rfl rfl rfl rfl ?_
                refine TL_gskip rfl rfl rfl rfl ?_
                refine TL_gskip rfl rfl rfl rfl ?_
                refine TL_gskip rfl rfl rfl rfl ?_
                refine TL_y rfl rfl (Y_pick_f rfl rfl) ?_
                refine TL_y rfl rfl (Y_move rfl) ?_
                refine TL_gskip rfl rfl rfl rfl ?_
                refine TL_gskip rfl rfl rfl rfl ?_
                refine TL_gskip rfl rfl rfl rfl ?_
                refine TL_gskip rfl rfl rfl rfl ?_
                refine TL_gskip rfl rfl rfl rfl ?_
                refine TL_y rfl rfl (Y_pick_f rfl rfl) ?_
                refine TL_y rfl rfl (Y_move rfl) ?_
                refine TL_gskip rfl rfl rfl rfl ?_
                refine TL_gskip rfl rfl rfl rfl ?_
                refine TL_gskip rfl rfl rfl rfl ?_
                refine TL_gskip rfl rfl rfl rfl ?_
                refine TL_gskip rfl rfl rfl rfl ?_
                refine TL_y rfl rfl (Y_pick_f rfl rfl) ?_
                refine TL_chain_end rfl ?_ (by repeat (first | exact sub_refl | refine sub_ext rfl ?_)) GivesTo.g
                exact congrArg Value.bool (decide_eq_false (by rw [en_eq]; simp_all)).symm
            · refine TL_gskip rfl rfl rfl rfl ?_
              refine TL_gskip rfl rfl rfl rfl ?_
              refine TL_gskip rfl rfl rfl rfl ?_
              refine TL_gskip rfl rfl rfl rfl ?_
              refine TL_gskip rfl rfl rfl rfl ?_
              refine TL_y rfl rfl (Y_pick_f rfl rfl) ?_
              refine TL_y rfl rfl (Y_move rfl) ?_
              refine TL_gskip rfl rfl rfl rfl ?_
              refine TL_gskip rfl rfl rfl rfl ?_
              refine TL_gskip rfl rfl rfl rfl ?_
              refine TL_gskip rfl rfl rfl rfl ?_
              refine TL_gskip rfl rfl rfl rfl ?_
              refine TL_y rfl rfl (Y_pick_f rfl rfl) ?_
              refine TL_y rfl rfl (Y_move rfl) ?_
              refine TL_gskip rfl rfl rfl rfl ?_
              refine TL_gskip rfl rfl rfl rfl ?_
              refine TL_gskip rfl rfl rfl rfl ?_
              refine TL_gskip rfl rfl rfl rfl ?_
              refine TL_gskip rfl rfl rfl rfl ?_
              refine TL_y rfl rfl (Y_pick_f rfl rfl) ?_
              refine TL_y rfl rfl (Y_move rfl) ?_
              refine TL_gskip rfl rfl rfl rfl ?_
              refine TL_gskip rfl rfl rfl rfl ?_
              refine TL_gskip rfl rfl rfl rfl ?_
              refine TL_gskip rfl rfl rfl rfl ?_
              refine TL_gskip rfl rfl rfl rfl ?_
              refine TL_y rfl rfl (Y_pick_f rfl rfl) ?_
              refine TL_chain_end rfl ?_ (by repeat (first | exact sub_refl | refine sub_ext rfl ?_)) GivesTo.g
              exact congrArg Value.bool (decide_eq_false (by rw [en_eq]; simp_all)).symm
          · refine TL_gskip rfl rfl rfl rfl ?_
            refine TL_gskip rfl rfl rfl rfl ?_
            refine TL_gskip rfl rfl rfl rfl ?_
            refine TL_gskip rfl rfl rfl rfl ?_
            refine TL_gskip rfl rfl rfl rfl ?_
            refine TL_gskip rfl rfl rfl rfl ?_
            refine TL_gskip rfl rfl rfl rfl ?_
            refine TL_y rfl rfl (Y_pick_f rfl rfl) ?_
            refine TL_y rfl rfl (Y_move rfl) ?_
            refine TL_gskip rfl rfl rfl rfl ?_
            refine TL_gskip rfl rfl rfl rfl ?_
            refine TL_gskip rfl rfl rfl rfl ?_
            refine TL_gskip rfl rfl rfl rfl ?_
            refine TL_gskip rfl rfl rfl rfl ?_
            refine TL_y rfl rfl (Y_pick_f rfl rfl) ?_
            refine TL_y rfl rfl (Y_move rfl) ?_
            refine TL_gskip rfl rfl rfl rfl ?_
            refine TL_gskip rfl rfl rfl rfl ?_
            refine TL_gskip rfl rfl rfl rfl ?_
            refine TL_gskip rfl rfl rfl rfl ?_
            refine TL_gskip rfl rfl rfl rfl ?_
            refine TL_y rfl rfl (Y_pick_f rfl rfl) ?_
            refine TL_y rfl rfl (Y_move rfl) ?_
            refine TL_gskip rfl rfl rfl rfl ?_
            refine TL_gskip rfl rfl rfl rfl ?_
            refine TL_gskip rfl rfl rfl rfl ?_
            refine TL_gskip rfl rfl rfl rfl ?_
            refine TL_gskip rfl rfl rfl rfl ?_
            refine TL_y rfl rfl (Y_pick_f rfl rfl) ?_
            refine TL_y rfl rfl (Y_move rfl) ?_
            refine TL_gskip rfl rfl rfl rfl ?_
            refine TL_gskip rfl rfl rfl rfl ?_
            refine TL_gskip rfl rfl rfl rfl ?_
            refine TL_gskip rfl rfl rfl rfl ?_
            refine TL_gskip rfl rfl rfl rfl ?_
            refine TL_y rfl rfl (Y_pick_f rfl rfl) ?_
            refine TL_chain_end rfl ?_ (by repeat (first | exact sub_refl | refine sub_ext rfl ?_)) GivesTo.g
            exact congrArg Value.bool (decide_eq_false (by rw [en_eq]; simp_all)).symm
        refine TL_y rfl rfl (Y_assign rfl) ?_
        refine TL_nil ?_
        refine T_region_last ?_
        refine TL_y rfl rfl (Y_move rfl) ?_
        refine TL_y rfl rfl (Y_move rfl) ?_
        refine TL_splitd 143 rfl (fun h143 => ?_) (fun h143 => ?_)
        · refine TL_gskip rfl rfl rfl rfl ?_
          refine TL_gskip rfl rfl rfl rfl ?_
          refine TL_y rfl rfl (Y_pick_t rfl rfl) ?_
          refine TL_y rfl rfl (Y_assign rfl) ?_
          refine TL_nil ?_
          refine thenS_normal ?_
          refine T_seq ?_
          refine T_region ?_
          refine TL_y rfl rfl (Y_move rfl) ?_
          refine TL_y rfl rfl (Y_not_t rfl) ?_
          refine TL_nil ?_
          refine T_cond_false rfl ?_
          refine T_skip ?_
          refine thenS_normal ?_
          refine T_region ?_
          refine TL_y rfl rfl (Y_move rfl) ?_
          refine TL_y rfl rfl (Y_bytes_strN rfl sln) ?_
          refine TL_y rfl rfl (Y_build rfl rfl) ?_
          refine TL_store rfl rfl rfl rfl rfl rfl ?_
          refine TL_nil ?_
          refine T_ret ?_
          have hch : chgA s m := by unfold chgA; rw [hg]; simp only [ne_eq, Option.some.injEq, hkey]; simp_all
          have hj : judgeV s m = .agg #[.string (strOfNums (outB (wMsg m ([], false)))), .bool true, .bool false] := by unfold judgeV recA; rw [if_pos ⟨hm, hn, hch⟩, decide_eq_true hm, decide_eq_false (fun h => hn h.2)]
          rw [hj]
          refine RetQ.gives (ac_close b s hi) ?_
          exact RetG_1 (.inl rfl) rfl (ResV.agg rfl rfl) GivesTo.g (⟨rfl, rfl⟩)
        · refine TL_grun rfl rfl ?_
          refine TL_y rfl rfl (Y_move rfl) ?_
          refine TL_grun rfl rfl ?_
          refine TL_y rfl rfl (Y_not_d rfl) ?_
          refine TL_y rfl rfl (Y_pick_f rfl rfl) ?_
          refine TL_y rfl rfl (Y_assign rfl) ?_
          refine TL_nil ?_
          refine thenS_normal ?_
          refine T_seq ?_
          refine T_region ?_
          refine TL_y rfl rfl (Y_move rfl) ?_
          refine TL_y rfl rfl (Y_not_d rfl) ?_
          refine TL_nil ?_
          refine T_if rfl (fun h148 => ?_) (fun h148 => ?_)
          · refine T_region_last ?_
            refine TL_y rfl rfl (Y_assign rfl) ?_
            refine TL_nil ?_
            refine thenS_normal ?_
            refine T_region ?_
            refine TL_y rfl rfl (Y_move rfl) ?_
            refine TL_name 149 (v' := .slice none ([] : List Int).length 0) rfl (rfl) ?_
            refine TL_y rfl rfl (Y_bytes_strN (A := none) (c := 0) (xs := []) rfl .nil) ?_
            refine TL_y rfl rfl (Y_build rfl rfl) ?_
            refine TL_store rfl rfl rfl rfl rfl rfl ?_
            refine TL_nil ?_
            refine T_ret ?_
            have hch : ¬ chgA s m := by unfold chgA; rw [hg]; simp only [ne_eq, Option.some.injEq, hkey]; simp_all
            have hj : judgeV s m = .agg #[.string (strOfNums []), .bool true, .bool false] := by unfold judgeV recA; rw [if_neg (fun h => hch h.2.2), decide_eq_true hm, decide_eq_false (fun h => hn h.2)]; rfl
            rw [hj]
            refine RetQ.gives (ac_close b s hi) ?_
            exact RetG_1 (.inl rfl) rfl (ResV.agg rfl rfl) GivesTo.g (⟨rfl, rfl⟩)
          · refine T_skip ?_
            refine thenS_normal ?_
            refine T_region ?_
            refine TL_y rfl rfl (Y_move rfl) ?_
            refine TL_y rfl rfl (Y_bytes_strN rfl sln) ?_
            refine TL_y rfl rfl (Y_build rfl rfl) ?_
            refine TL_store rfl rfl rfl rfl rfl rfl ?_
            refine TL_nil ?_
            refine T_ret ?_
            have hch : chgA s m := by unfold chgA; rw [hg]; simp only [ne_eq, Option.some.injEq, hkey]; simp_all
            have hj : judgeV s m = .agg #[.string (strOfNums (outB (wMsg m ([], false)))), .bool true, .bool false] := by unfold judgeV recA; rw [if_pos ⟨hm, hn, hch⟩, decide_eq_true hm, decide_eq_false (fun h => hn h.2)]
            rw [hj]
            refine RetQ.gives (ac_close b s hi) ?_
            exact RetG_1 (.inl rfl) rfl (ResV.agg rfl rfl) GivesTo.g (⟨rfl, rfl⟩)
      · refine RD_leaf _ [0, 1, 3, 0, 8, 24, 128, 0, 199, 511] [] [(0, true), (1, true), (2, true), (3, true), (4, true), (5, true), (7, false), (6, false), (8, false), (9, false)] (by decide +kernel) (Gives.refl _) ?_
        refine TF_y rfl rfl (Y_field_addr rfl) ?_
        refine TF_y rfl rfl (Y_field_addr rfl) ?_
        refine TF_y rfl rfl (Y_load_agg rfl rfl) ?_
        refine TF_y rfl rfl (Y_field_addr rfl) ?_
        refine TF_y rfl rfl (Y_field_addr rfl) ?_
        refine TF_y rfl rfl (Y_load_agg rfl rfl) ?_
        refine TF_anchor rfl ?_
        refine TL_alloc rfl rfl ?_
        intro b12
        refine TF_end GivesTo.g ?_
        refine TF_anchor rfl ?_
        refine TL_alloc rfl rfl ?_
        intro b11
        refine TF_end GivesTo.g ?_
        refine TF_anchor rfl ?_
        refine TL_store rfl rfl rfl rfl rfl rfl ?_
        refine TF_end GivesTo.g ?_
        refine TF_anchor rfl ?_
        refine TL_store rfl rfl rfl rfl rfl rfl ?_
        refine TF_end GivesTo.g ?_
        refine TF_nil ?_
        refine thenS_normal ?_
        refine T_region ?_
        refine TL_both 45 141 (u.bal = m.bal ∧ u.en = m.en) ?_ ?_
        · refine TL_y rfl rfl (Y_move rfl) ?_
          refine TL_y rfl rfl (Y_move rfl) ?_
          refine TL_grun rfl rfl ?_
          refine TL_y rfl rfl (Y_field_addr rfl) ?_
          refine TL_grun rfl rfl ?_
          refine TL_y rfl rfl (Y_load_agg rfl rfl) ?_
          refine TL_grun rfl rfl ?_
          refine TL_y rfl rfl (Y_field_addr rfl) ?_
          refine TL_grun rfl rfl ?_
          refine TL_y rfl rfl (Y_load_agg rfl rfl) ?_
          refine TL_grun rfl rfl ?_
          refine TL_y rfl rfl (Y_eq_bal rfl rfl) ?_
          refine TL_y rfl rfl (Y_pick_t rfl rfl) ?_
          refine TL_y rfl rfl (Y_move rfl) ?_
          refine TL_splitd 105 rfl (fun h105 => ?_) (fun h105 => ?_)
          · refine TL_grun rfl rfl ?_
            refine TL_y rfl rfl (Y_field_addr rfl) ?_
            refine TL_grun rfl rfl ?_
            refine TL_y rfl rfl (Y_field_addr rfl) ?_
            refine TL_grun rfl rfl ?_
            refine TL_y rfl rfl (Y_load rfl rfl) ?_
            refine TL_grun rfl rfl ?_
            refine TL_y rfl rfl (Y_field_addr rfl) ?_
            refine TL_grun rfl rfl ?_
            refine TL_y rfl rfl (Y_field_addr rfl) ?_
            refine TL_grun rfl rfl ?_
            refine TL_y rfl rfl (Y_load rfl rfl) ?_
            refine TL_grun rfl rfl ?_
            refine TL_y rfl rfl (Y_equal rfl rfl (EqIs.bool)) ?_
            refine TL_name 112 (v' := .bool (decide (u.en.noop = m.en.noop))) rfl (by cases u.en.noop <;> cases m.en.noop <;> rfl) ?_
            refine TL_y rfl rfl (Y_pick_t rfl rfl) ?_
            refine TL_y rfl rfl (Y_move rfl) ?_
            refine TL_splitd 114 rfl (fun h114 => ?_) (fun h114 => ?_)
            · refine TL_grun rfl rfl ?_
              refine TL_y rfl rfl (Y_field_addr rfl) ?_
              refine TL_grun rfl rfl ?_
              refine TL_y rfl rfl (Y_load rfl rfl) ?_
              refine TL_grun rfl rfl ?_
              refine TL_y rfl rfl (Y_field_addr rfl) ?_
              refine TL_grun rfl rfl ?_
              refine TL_y rfl rfl (Y_load rfl rfl) ?_
              refine TL_grun rfl rfl ?_
              refine TL_y rfl rfl (Y_str_eq rfl rfl) ?_
              refine TL_y rfl rfl (Y_pick_t rfl rfl) ?_
              refine TL_y rfl rfl (Y_move rfl) ?_
              refine TL_splitd 121 rfl (fun h121 => ?_) (fun h121 => ?_)
              · refine TL_grun rfl rfl ?_
                refine TL_y rfl rfl (Y_field_addr rfl) ?_
                refine TL_grun rfl rfl ?_
                refine TL_y rfl rfl (Y_load rfl rfl) ?_
                refine TL_grun rfl rfl ?_
                refine TL_y rfl rfl (Y_field_addr rfl) ?_
                refine TL_grun rfl rfl ?_
                refine TL_y rfl rfl (Y_load rfl rfl) ?_
                refine TL_grun rfl rfl ?_
                refine TL_y rfl rfl (Y_str_eq rfl rfl) ?_
                refine TL_y rfl rfl (Y_pick_t rfl rfl) ?_
                refine TL_y rfl rfl (Y_move rfl) ?_
                refine TL_splitd 128 rfl (fun h128 => ?_) (fun h128 => ?_)
                · refine TL_grun rfl rfl ?_
                  refine TL_y rfl rfl (Y_field_addr rfl) ?_
                  refine TL_grun rfl rfl ?_
                  refine TL_y rfl rfl (Y_load rfl rfl) ?_
                  refine TL_grun rfl rfl ?_
                  refine TL_y rfl rfl (Y_field_addr rfl) ?_
                  refine TL_grun rfl rfl ?_
                  refine TL_y rfl rfl (Y_load rfl rfl) ?_
                  refine TL_grun rfl rfl ?_
                  refine TL_y rfl rfl (Y_eq rfl rfl) ?_
                  refine TL_y rfl rfl (Y_pick_t rfl rfl) ?_
                  refine TL_y rfl rfl (Y_move rfl) ?_
                  refine TL_splitd 135 rfl (fun h135 => ?_) (fun h135 => ?_)
                  · refine TL_grun rfl rfl ?_
                    refine TL_y rfl rfl (Y_field_addr rfl) ?_
                    refine TL_grun rfl rfl ?_
                    refine TL_y rfl rfl (Y_load rfl rfl) ?_
                    refine TL_grun rfl rfl ?_
                    refine TL_y rfl rfl (Y_field_addr rfl) ?_
                    refine TL_grun rfl rfl ?_
                    refine TL_y rfl rfl (Y_load rfl rfl) ?_
                    refine TL_grun rfl rfl ?_
                    refine TL_call rfl rfl (equalInts_spec sln (SlN.of_gives GivesTo.g hk.cut.n)) ?_
                    rintro _ _ ⟨rfl, rfl⟩
                    refine TL_y rfl rfl (Y_pick_t rfl rfl) ?_
                    refine TL_chain_end rfl ?_ (by repeat (first | exact sub_refl | refine sub_ext rfl ?_)) GivesTo.g
                    exact congrArg Value.bool (decide_eq_decide.2 (by rw [en_eq]; simp_all))
                  · refine TL_gskip rfl rfl rfl rfl ?_
                    refine TL_gskip rfl rfl rfl rfl ?_
                    refine TL_gskip rfl rfl rfl rfl ?_
                    refine TL_gskip rfl rfl rfl rfl ?_
                    refine TL_gskip rfl rfl rfl rfl ?_
                    refine TL_y rfl rfl (Y_pick_f rfl rfl) ?_
                    refine TL_chain_end rfl ?_ (by repeat (first | exact sub_refl | refine sub_ext rfl ?_)) GivesTo.g
                    exact congrArg Value.bool (decide_eq_false (by rw [en_eq]; simp_all)).symm
                · refine TL_gskip rfl rfl rfl rfl ?_
                  refine TL_gskip rfl rfl rfl rfl ?_
                  refine TL_gskip rfl rfl rfl rfl ?_
                  refine TL_gskip rfl rfl rfl rfl ?_
                  refine TL_gskip rfl rfl rfl rfl ?_
                  refine TL_y rfl rfl (Y_pick_f rfl rfl) ?_
                  refine TL_y rfl rfl (Y_move rfl) ?_
                  refine TL_gskip rfl rfl rfl rfl ?_
                  refine TL_gskip rfl rfl rfl rfl ?_
                  refine TL_gskip rfl rfl rfl rfl ?_
                  refine TL_gskip rfl rfl rfl rfl ?_
                  refine TL_gskip rfl rfl rfl rfl ?_
                  refine TL_y rfl rfl (Y_pick_f rfl rfl) ?_
                  refine TL_chain_end rfl ?_ (by repeat (first | exact sub_refl | refine sub_ext rfl ?_)) GivesTo.g
                  exact congrArg Value.bool (decide_eq_false (by rw [en_eq]; simp_all)).symm
              · refine TL_gskip rfl rfl rfl rfl ?_
                refine TL_gskip rfl rfl rfl rfl ?_
                refine TL_gskip rfl rfl rfl rfl ?_
                refine TL_gskip rfl rfl rfl rfl ?_
                refine TL_gskip rfl rfl rfl rfl ?_
                refine TL_y rfl rfl (Y_pick_f rfl rfl) ?_
                refine TL_y rfl rfl (Y_move rfl) ?_
                refine TL_gskip rfl rfl rfl rfl ?_
                refine TL_gskip rfl rfl rfl rfl ?_
                refine TL_gskip rfl rfl rfl rfl ?_
                refine TL_gskip rfl rfl rfl rfl ?_
                refine TL_gskip rfl rfl rfl rfl ?_
                refine TL_y rfl rfl (Y_pick_f rfl rfl) ?_
                refine TL_y rfl rfl (Y_move rfl) ?_
                refine TL_gskip rfl rfl rfl rfl ?_
                refine TL_gskip rfl rfl rfl rfl ?_
                refine TL_gskip rfl rfl rfl rfl ?_
                refine TL_gskip rfl rfl rfl rfl ?_
                refine TL_gskip rfl rfl rfl rfl ?_
                refine TL_y rfl rfl (Y_pick_f rfl rfl) ?_
                refine TL_chain_end rfl ?_ (by repeat (first | exact sub_refl | refine sub_ext rfl ?_)) GivesTo.g
                exact congrArg Value.bool (decide_eq_false (by rw [en_eq]; simp_all)).symm
            · refine TL_gskip rfl rfl rfl rfl ?_
              refine TL_gskip rfl rfl rfl rfl ?_
              refine TL_gskip rfl rfl rfl rfl ?_
              refine TL_gskip rfl rfl rfl rfl ?_
              refine TL_gskip rfl rfl rfl rfl ?_
              refine TL_y rfl rfl (Y_pick_f rfl rfl) ?_
              refine TL_y rfl rfl (Y_move rfl) ?_
              refine TL_gskip rfl rfl rfl rfl ?_
              refine TL_gskip rfl rfl rfl rfl ?_
              refine TL_gskip rfl rfl rfl rfl ?_
              refine TL_gskip rfl rfl rfl rfl ?_
              refine TL_gskip rfl rfl rfl rfl ?_
              refine TL_y rfl rfl (Y_pick_f rfl rfl) ?_
              refine TL_y rfl rfl (Y_move rfl) ?_
              refine TL_gskip rfl rfl rfl rfl ?_
              refine TL_gskip rfl rfl rfl rfl ?_
              refine TL_gskip rfl rfl rfl rfl ?_
              refine TL_gskip rfl rfl rfl rfl ?_
              refine TL_gskip rfl rfl rfl rfl ?_
              refine TL_y rfl rfl (Y_pick_f rfl rfl) ?_
              refine TL_y rfl rfl (Y_move rfl) ?_
              refine TL_gskip rfl rfl rfl rfl ?_
              refine TL_gskip rfl rfl rfl rfl ?_
              refine TL_gskip rfl rfl rfl rfl ?_
              refine TL_gskip rfl rfl rfl rfl ?_
              refine TL_gskip rfl rfl rfl rfl ?_
              refine TL_y rfl rfl (Y_pick_f rfl rfl) ?_
              refine TL_chain_end rfl ?_ (by repeat (first | exact sub_refl | refine sub_ext rfl ?_)) GivesTo.g
              exact congrArg Value.bool (decide_eq_false (by rw [en_eq]; simp_all)).symm
          · refine TL_gskip rfl rfl rfl rfl ?_
            refine TL_gskip rfl rfl rfl rfl ?_
            refine TL_gskip rfl rfl rfl rfl ?_
            refine TL_gskip rfl rfl rfl rfl ?_
            refine TL_gskip rfl rfl rfl rfl ?_
            refine TL_gskip rfl rfl rfl rfl ?_
            refine TL_gskip rfl rfl rfl rfl ?_
            refine TL_y rfl rfl (Y_pick_f rfl rfl) ?_
            refine TL_y rfl rfl (Y_move rfl) ?_
            refine TL_gskip rfl rfl rfl rfl ?_
            refine TL_gskip rfl rfl rfl rfl ?_
            refine TL_gskip rfl rfl rfl rfl ?_
            refine TL_gskip rfl rfl rfl rfl ?_
            refine TL_gskip rfl rfl rfl rfl ?_
            refine TL_y rfl rfl (Y_pick_f rfl rfl) ?_
            refine TL_y rfl rfl (Y_move rfl) ?_
            refine TL_gskip rfl rfl rfl rfl ?_
            refine TL_gskip rfl rfl rfl rfl ?_
            refine TL_gskip rfl rfl rfl rfl ?_
            refine TL_gskip rfl rfl rfl rfl ?_
            refine TL_gskip rfl rfl rfl rfl ?_
            refine TL_y rfl rfl (Y_pick_f rfl rfl) ?_
            refine TL_y rfl rfl (Y_move rfl) ?_
            refine TL_gskip rfl rfl rfl rfl ?_
            refine TL_gskip rfl rfl rfl rfl ?_
            refine TL_gskip rfl rfl rfl rfl ?_
            refine TL_gskip rfl rfl rfl rfl ?_
            refine TL_gskip rfl rfl rfl rfl ?_
            refine TL_y rfl rfl (Y_pick_f rfl rfl) ?_
            refine TL_y rfl rfl (Y_move rfl) ?_
            refine TL_gskip rfl rfl rfl rfl ?_
            refine TL_gskip rfl rfl rfl rfl ?_
            refine TL_gskip rfl rfl rfl rfl ?_
            refine TL_gskip rfl rfl rfl rfl ?_
            refine TL_gskip rfl rfl rfl rfl ?_
            refine TL_y rfl rfl (Y_pick_f rfl rfl) ?_
            refine TL_chain_end rfl ?_ (by repeat (first | exact sub_refl | refine sub_ext rfl ?_)) GivesTo.g
            exact congrArg Value.bool (decide_eq_false (by rw [en_eq]; simp_all)).symm
        refine TL_y rfl rfl (Y_assign rfl) ?_
        refine TL_nil ?_
        refine T_region_last ?_
        refine TL_y rfl rfl (Y_move rfl) ?_
        refine TL_y rfl rfl (Y_move rfl) ?_
        refine TL_splitd 143 rfl (fun h143 => ?_) (fun h143 => ?_)
        · refine TL_gskip rfl rfl rfl rfl ?_
          refine TL_gskip rfl rfl rfl rfl ?_
          refine TL_y rfl rfl (Y_pick_t rfl rfl) ?_
          refine TL_y rfl rfl (Y_assign rfl) ?_
          refine TL_nil ?_
          refine thenS_normal ?_
          refine T_seq ?_
          refine T_region ?_
          refine TL_y rfl rfl (Y_move rfl) ?_
          refine TL_y rfl rfl (Y_not_t rfl) ?_
          refine TL_nil ?_
          refine T_cond_false rfl ?_
          refine T_skip ?_
          refine thenS_normal ?_
          refine T_region ?_
          refine TL_y rfl rfl (Y_move rfl) ?_
          refine TL_y rfl rfl (Y_bytes_strN rfl sln) ?_
          refine TL_y rfl rfl (Y_build rfl rfl) ?_
          refine TL_store rfl rfl rfl rfl rfl rfl ?_
          refine TL_nil ?_
          refine T_ret ?_
          have hch : chgA s m := by unfold chgA; rw [hg]; simp only [ne_eq, Option.some.injEq, hkey]; simp_all
          have hj : judgeV s m = .agg #[.string (strOfNums (outB (wMsg m ([], false)))), .bool true, .bool false] := by unfold judgeV recA; rw [if_pos ⟨hm, hn, hch⟩, decide_eq_true hm, decide_eq_false (fun h => hn h.2)]
          rw [hj]
          refine RetQ.gives (ac_close b s hi) ?_
          exact RetG_1 (.inl rfl) rfl (ResV.agg rfl rfl) GivesTo.g (⟨rfl, rfl⟩)
        · refine TL_grun rfl rfl ?_
          refine TL_y rfl rfl (Y_move rfl) ?_
          refine TL_grun rfl rfl ?_
          refine TL_y rfl rfl (Y_not_d rfl) ?_
          refine TL_y rfl rfl (Y_pick_f rfl rfl) ?_
          refine TL_y rfl rfl (Y_assign rfl) ?_
          refine TL_nil ?_
          refine thenS_normal ?_
          refine T_seq ?_
          refine T_region ?_
          refine TL_y rfl rfl (Y_move rfl) ?_
          refine TL_y rfl rfl (Y_not_d rfl) ?_
          refine TL_nil ?_
          refine T_if rfl (fun h148 => ?_) (fun h148 => ?_)
          · refine T_region_last ?_
            refine TL_y rfl rfl (Y_assign rfl) ?_
            refine TL_nil ?_
            refine thenS_normal ?_
            refine T_region ?_
            refine TL_y rfl rfl (Y_move rfl) ?_
            refine TL_name 149 (v' := .slice none ([] : List Int).length 0) rfl (rfl) ?_
            refine TL_y rfl rfl (Y_bytes_strN (A := none) (c := 0) (xs := []) rfl .nil) ?_
            refine TL_y rfl rfl (Y_build rfl rfl) ?_
            refine TL_store rfl rfl rfl rfl rfl rfl ?_
            refine TL_nil ?_
            refine T_ret ?_
            have hch : ¬ chgA s m := by unfold chgA; rw [hg]; simp only [ne_eq, Option.some.injEq, hkey]; simp_all
            have hj : judgeV s m = .agg #[.string (strOfNums []), .bool true, .bool false] := by unfold judgeV recA; rw [if_neg (fun h => hch h.2.2), decide_eq_true hm, decide_eq_false (fun h => hn h.2)]; rfl
            rw [hj]
            refine RetQ.gives (ac_close b s hi) ?_
            exact RetG_1 (.inl rfl) rfl (ResV.agg rfl rfl) GivesTo.g (⟨rfl, rfl⟩)
          · refine T_skip ?_
            refine thenS_normal ?_
            refine T_region ?_
            refine TL_y rfl rfl (Y_move rfl) ?_
            refine TL_y rfl rfl (Y_bytes_strN rfl sln) ?_
            refine TL_y rfl rfl (Y_build rfl rfl) ?_
            refine TL_store rfl rfl rfl rfl rfl rfl ?_
            refine TL_nil ?_
            refine T_ret ?_
            have hch : chgA s m := by unfold chgA; rw [hg]; simp only [ne_eq, Option.some.injEq, hkey]; simp_all
            have hj : judgeV s m = .agg #[.string (strOfNums (outB (wMsg m ([], false)))), .bool true, .bool false] := by unfold judgeV recA; rw [if_pos ⟨hm, hn, hch⟩, decide_eq_true hm, decide_eq_false (fun h => hn h.2)]
            rw [hj]
            refine RetQ.gives (ac_close b s hi) ?_
            exact RetG_1 (.inl rfl) rfl (ResV.agg rfl rfl) GivesTo.g (⟨rfl, rfl⟩)
  · refine RD_leaf _ [0, 1, 3, 7, 0, 16, 1087, 1151, 1279, 1279, 0, 1535, 4095] [] [(0, true), (1, true), (2, true), (3, true), (4, true), (5, true), (10, false), (6, false), (7, true), (8, true), (9, true), (11, false), (12, true)] (by decide +kernel) (Gives.refl _) ?_
    refine TF_y rfl rfl (Y_move rfl) ?_
    refine TF_y rfl rfl (Y_nil_check rfl) ?_
    refine TF_y rfl rfl (Y_field_addr rfl) ?_
    refine TF_y rfl rfl (Y_load rfl rfl) ?_
    refine TF_y rfl rfl (Y_field_addr rfl) ?_
    refine TF_y rfl rfl (Y_load rfl rfl) ?_
    refine TF_anchor rfl ?_
    refine TL_alloc rfl rfl ?_
    intro b7
    refine TF_end GivesTo.g ?_
    refine TF_anchor rfl ?_
    refine TL_lookup_okx (R := votedR) (k := m.slot) rfl rfl rfl hx.slot (fun hn => absurd hn (by rw [hg]; simp)) (fun u2 p2 hu hou => ?_)
    rw [hg] at hu
    obtain rfl := Option.some.inj hu
    simp only [List.cons_append, List.nil_append]
    refine TF_end GivesTo.g ?_
    refine TF_y rfl rfl (Y_move rfl) ?_
    refine TF_y rfl rfl (Y_extract rfl rfl) ?_
    refine TF_y rfl rfl (Y_extract rfl rfl) ?_
    refine TF_name 55 (v' := .bool true) rfl (rfl) ?_
    refine TF_anchor rfl ?_
    refine TL_store rfl rfl rfl rfl rfl rfl ?_
    refine TF_end GivesTo.g ?_
    refine TF_y rfl rfl (Y_assign rfl) ?_
    refine TF_nil ?_
    refine thenS_normal ?_
    refine T_region ?_
    refine TL_y rfl rfl (Y_field_addr rfl) ?_
    refine TL_y rfl rfl (Y_load rfl rfl) ?_
    refine TL_y rfl rfl (Y_eq rfl rfl) ?_
    refine TL_name 58 (v' := .bool true) rfl (congrArg Value.bool (decide_eq_true h3)) ?_
    refine TL_y rfl rfl (Y_assign rfl) ?_
    refine TL_nil ?_
    refine T_seq ?_
    refine T_region_draw _ [0, 1, 0, 4, 12, 28, 63, 127, 255, 511, 1023, 2047, 4095, 8191, 16383, 32767, 65535, 131071, 262143, 524287, 1048575, 2097151, 4194303] [] [(0, true), (1, true), (2, true), (3, true), (4, true), (5, true), (6, false), (7, true), (8, true), (9, true), (10, true), (11, true), (12, true), (13, true), (14, true), (15, true), (16, true), (17, true), (18, true), (19, true), (20, true), (21, true), (22, true)] (by kernel_rfl) (by decide +kernel) (Gives.refl _) ?_
    refine TF_y rfl rfl (Y_field_addr rfl) ?_
    refine TF_y rfl rfl (Y_load_agg rfl rfl) ?_
    refine TF_y rfl rfl (Y_move rfl) ?_
    refine TF_y rfl rfl (Y_nil_check rfl) ?_
    refine TF_y rfl rfl (Y_field_addr rfl) ?_
    refine TF_y rfl rfl (Y_load_agg rfl rfl) ?_
    refine TF_anchor rfl ?_
    refine TL_call rfl rfl (compare_spec m.bal s.prom _) ?_
    rintro _ _ ⟨rfl, rfl⟩
    refine TF_end GivesTo.g ?_
    refine TF_y rfl rfl (Y_lt rfl rfl) ?_
    refine TF_y rfl rfl (Y_move rfl) ?_
    refine TF_splitd 67 rfl (fun h67 => ?_) (fun h67 => ?_)
    · refine TF_gskip rfl rfl rfl rfl rfl ?_
      refine TF_gskip rfl rfl rfl rfl rfl ?_
      refine TF_gskip_u rfl rfl rfl rfl ?_
      refine TF_gskip_u rfl rfl rfl rfl ?_
      refine TF_gskip rfl rfl rfl rfl rfl ?_
      refine TF_gskip rfl rfl rfl rfl rfl ?_
      refine TF_gskip_u rfl rfl rfl rfl ?_
      refine TF_gskip_u rfl rfl rfl rfl ?_
      refine TF_gskip_u rfl rfl rfl rfl ?_
      refine TF_gskip_u rfl rfl rfl rfl ?_
      refine TF_gskip_u rfl rfl rfl rfl ?_
      refine TF_gskip_u rfl rfl rfl rfl ?_
      refine TF_gskip rfl rfl rfl rfl rfl ?_
      refine TF_y rfl rfl (Y_pick_t rfl rfl) ?_
      refine TF_nil ?_
      refine T_cond_true rfl ?_
      refine T_region ?_
      refine TL_y rfl rfl (Y_build rfl rfl) ?_
      refine TL_store rfl rfl rfl rfl rfl rfl ?_
      refine TL_nil ?_
      refine T_ret ?_
      refine thenS_ret ?_
      have hn : nackA s m := .inl (by omega)
      have hj : judgeV s m = .agg #[.string ⟨#[]⟩, .bool true, .bool true] := by unfold judgeV recA; rw [if_neg (fun h => h.2.1 hn), decide_eq_true hm, decide_eq_true (And.intro hm hn)]
      rw [hj]
      refine RetQ.gives (ac_close b s hi) ?_
      exact RetG_1 (.inl rfl) rfl (ResV.agg rfl rfl) GivesTo.g (⟨rfl, rfl⟩)
    · refine TF_gy rfl rfl rfl rfl (Y_move rfl) ?_
      refine TF_gy rfl rfl rfl rfl (Y_move rfl) ?_
      refine TF_gy rfl rfl rfl rfl (Y_move rfl) ?_
      refine TF_gy rfl rfl rfl rfl (Y_not_t rfl) ?_
      refine TF_gy rfl rfl rfl rfl (Y_pick_t rfl rfl) ?_
      refine TF_gy rfl rfl rfl rfl (Y_move rfl) ?_
      refine TF_gskip rfl rfl rfl rfl rfl ?_
      refine TF_gskip rfl rfl rfl rfl rfl ?_
      refine TF_gskip rfl rfl rfl rfl rfl ?_
      refine TF_gskip rfl rfl rfl rfl rfl ?_
      refine TF_gskip rfl rfl rfl rfl rfl ?_
      refine TF_gskip rfl rfl rfl rfl rfl ?_
      refine TF_gy rfl rfl rfl rfl (Y_pick_f rfl rfl) ?_
      refine TF_y rfl rfl (Y_pick_f rfl rfl) ?_
      refine TF_nil ?_
      refine T_cond_false rfl ?_
      refine T_skip ?_
      refine thenS_normal ?_
      have hn : ¬ nackA s m := by unfold nackA; rw [hg]; rintro (h | ⟨_, h, _⟩); omega; cases h
      have hkey : u = newV m ↔ u.bal = m.bal ∧ u.en = m.en := by have hus := (vmap_get hg).2; obtain ⟨u1, u2, u3⟩ := u; dsimp only at hus; subst hus; simp [newV]
      refine T_region_draw _ [0, 1, 3, 7, 0, 16, 63, 127] [] [(0, true), (1, true), (2, true), (3, true), (4, true), (5, true), (6, true), (7, true)] (by kernel_rfl) (by decide +kernel) (Gives.refl _) ?_
      refine TF_y rfl rfl (Y_move rfl) ?_
      refine TF_y rfl rfl (Y_nil_check rfl) ?_
      refine TF_y rfl rfl (Y_field_addr rfl) ?_
      refine TF_y rfl rfl (Y_load_agg rfl rfl) ?_
      refine TF_y rfl rfl (Y_field_addr rfl) ?_
      refine TF_y rfl rfl (Y_load_agg rfl rfl) ?_
      refine TF_y rfl rfl (Y_ne_bal rfl rfl) ?_
      refine TF_name 89 (v' := .bool (decide (s.prom ≠ m.bal))) rfl (by by_cases h : s.prom = m.bal <;> simp [h]) ?_
      refine TF_y rfl rfl (Y_assign rfl) ?_
      refine TF_nil ?_
      refine T_seq ?_
      refine T_region ?_
      refine TL_y rfl rfl (Y_move rfl) ?_
      refine TL_nil ?_
      refine T_cond_true rfl ?_
      refine T_rd [0, 1, 3, 0, 8, 24, 0, 0, 199, 511] (by kernel_rfl) (by decide +kernel) ?_
      refine RD_pair 6 7 (by decide) ?_ ?_
      · refine RD_leaf _ [0, 1, 3, 0, 8, 24, 0, 64, 199, 511] [] [(0, true), (1, true), (2, true), (3, true), (4, true), (5, true), (6, false), (7, false), (8, false), (9, false)] (by decide +kernel) (Gives.refl _) ?_
        refine TF_y rfl rfl (Y_field_addr rfl) ?_
        refine TF_y rfl rfl (Y_field_addr rfl) ?_
        refine TF_y rfl rfl (Y_load_agg rfl rfl) ?_
        refine TF_y rfl rfl (Y_field_addr rfl) ?_
        refine TF_y rfl rfl (Y_field_addr rfl) ?_
        refine TF_y rfl rfl (Y_load_agg rfl rfl) ?_
        refine TF_anchor rfl ?_
        refine TL_alloc rfl rfl ?_
        intro b11
        refine TF_end GivesTo.g ?_
        refine TF_anchor rfl ?_
        refine TL_alloc rfl rfl ?_
        intro b12
        refine TF_end GivesTo.g ?_
        refine TF_anchor rfl ?_
        refine TL_store rfl rfl rfl rfl rfl rfl ?_
        refine TF_end GivesTo.g ?_
        refine TF_anchor rfl ?_
        refine TL_store rfl rfl rfl rfl rfl rfl ?_
        refine TF_end GivesTo.g ?_
        refine TF_nil ?_
        refine thenS_normal ?_
        refine T_region ?_
        refine TL_both 45 141 (u.bal = m.bal ∧ u.en = m.en) ?_ ?_
        · refine TL_y rfl rfl (Y_move rfl) ?_
          refine TL_y rfl rfl (Y_move rfl) ?_
          refine TL_grun rfl rfl ?_
          refine TL_y rfl rfl (Y_field_addr rfl) ?_
          refine TL_grun rfl rfl ?_
          refine TL_y rfl rfl (Y_load_agg rfl rfl) ?_
          refine TL_grun rfl rfl ?_
          refine TL_y rfl rfl (Y_field_addr rfl) ?_
          refine TL_grun rfl rfl ?_
          refine TL_y rfl rfl (Y_load_agg rfl rfl) ?_
          refine TL_grun rfl rfl ?_
          refine TL_y rfl rfl (Y_eq_bal rfl rfl) ?_
          refine TL_y rfl rfl (Y_pick_t rfl rfl) ?_
          refine TL_y rfl rfl (Y_move rfl) ?_
          refine TL_splitd 105 rfl (fun h105 => ?_) (fun h105 => ?_)
          · refine TL_grun rfl rfl ?_
            refine TL_y rfl rfl (Y_field_addr rfl) ?_
            refine TL_grun rfl rfl ?_
            refine TL_y rfl rfl (Y_field_addr rfl) ?_
            refine TL_grun rfl rfl ?_
            refine TL_y rfl rfl (Y_load rfl rfl) ?_
            refine TL_grun rfl rfl ?_
            refine TL_y rfl rfl (Y_field_addr rfl) ?_
            refine TL_grun rfl rfl ?_
            refine TL_y rfl rfl (Y_field_addr rfl) ?_
            refine TL_grun rfl rfl ?_
            refine TL_y rfl rfl (Y_load rfl rfl) ?_
            refine TL_grun rfl rfl ?_
            refine TL_y rfl rfl (Y_equal rfl rfl (EqIs.bool)) ?_
            refine TL_name 112 (v' := .bool (decide (u.en.noop = m.en.noop))) rfl (by cases u.en.noop <;> cases m.en.noop <;> rfl) ?_
            refine TL_y rfl rfl (Y_pick_t rfl rfl) ?_
            refine TL_y rfl rfl (Y_move rfl) ?_
            refine TL_splitd 114 rfl (fun h114 => ?_) (fun h114 => ?_)
            · refine TL_grun rfl rfl ?_
              refine TL_y rfl rfl (Y_field_addr rfl) ?_
              refine TL_grun rfl rfl ?_
              refine TL_y rfl rfl (Y_load rfl rfl) ?_
              refine TL_grun rfl rfl ?_
              refine TL_y rfl rfl (Y_field_addr rfl) ?_
              refine TL_grun rfl rfl ?_
              refine TL_y rfl rfl (Y_load rfl rfl) ?_
              refine TL_grun rfl rfl ?_
              refine TL_y rfl rfl (Y_str_eq rfl rfl) ?_
              refine TL_y rfl rfl (Y_pick_t rfl rfl) ?_
              refine TL_y rfl rfl (Y_move rfl) ?_
              refine TL_splitd 121 rfl (fun h121 => ?_) (fun h121 => ?_)
              · refine TL_grun rfl rfl ?_
                refine TL_y rfl rfl (Y_field_addr rfl) ?_
                refine TL_grun rfl rfl ?_
                refine TL_y rfl rfl (Y_load rfl rfl) ?_
                refine TL_grun rfl rfl ?_
                refine TL_y rfl rfl (Y_field_addr rfl) ?_
                refine TL_grun rfl rfl ?_
                refine TL_y rfl rfl (Y_load rfl rfl) ?_
                refine TL_grun rfl rfl ?_
                refine TL_y rfl rfl (Y_str_eq rfl rfl) ?_
                refine TL_y rfl rfl (Y_pick_t rfl rfl) ?_
                refine TL_y rfl rfl (Y_move rfl) ?_
                refine TL_splitd 128 rfl (fun h128 => ?_) (fun h128 => ?_)
                · refine TL_grun rfl rfl ?_
                  refine TL_y rfl rfl (Y_field_addr rfl) ?_
                  refine TL_grun rfl rfl ?_
                  refine TL_y rfl rfl (Y_load rfl rfl) ?_
                  refine TL_grun rfl rfl ?_
                  refine TL_y rfl rfl (Y_field_addr rfl) ?_
                  refine TL_grun rfl rfl ?_
                  refine TL_y rfl rfl (Y_load rfl rfl) ?_
                  refine TL_grun rfl rfl ?_
                  refine TL_y rfl rfl (Y_eq rfl rfl) ?_
                  refine TL_y rfl rfl (Y_pick_t rfl rfl) ?_
                  refine TL_y rfl rfl (Y_move rfl) ?_
                  refine TL_splitd 135 rfl (fun h135 => ?_) (fun h135 => ?_)
                  · refine TL_grun rfl rfl ?_
                    refine TL_y rfl rfl (Y_field_addr rfl) ?_
                    refine TL_grun rfl rfl ?_
                    refine TL_y rfl rfl (Y_load rfl rfl) ?_
                    refine TL_grun rfl rfl ?_
                    refine TL_y rfl rfl (Y_field_addr rfl) ?_
                    refine TL_grun rfl rfl ?_
                    refine TL_y rfl rfl (Y_load rfl rfl) ?_
                    refine TL_grun rfl rfl ?_
                    refine TL_call rfl rfl (equalInts_spec sln (SlN.of_gives GivesTo.g hk.cut.n)) ?_
                    rintro _ _ ⟨rfl, rfl⟩
                    refine TL_y rfl rfl (Y_pick_t rfl rfl) ?_
                    refine TL_chain_end rfl ?_ (by repeat (first | exact sub_refl | refine sub_ext rfl ?_)) GivesTo.g
                    exact congrArg Value.bool (decide_eq_decide.2 (by rw [en_eq]; simp_all))
                  · refine TL_gskip rfl rfl rfl rfl ?_
                    refine TL_gskip rfl rfl rfl rfl ?_
                    refine TL_gskip rfl rfl rfl rfl ?_
                    refine TL_gskip rfl rfl rfl rfl ?_
                    refine TL_gskip rfl rfl rfl rfl ?_
                    refine TL_y rfl rfl (Y_pick_f rfl rfl) ?_
                    refine TL_chain_end rfl ?_ (by repeat (first | exact sub_refl | refine sub_ext rfl ?_)) GivesTo.g
                    exact congrArg Value.bool (decide_eq_false (by rw [en_eq]; simp_all)).symm
                · refine TL_gskip rfl rfl rfl rfl ?_
                  refine TL_gskip rfl rfl rfl rfl ?_
                  refine TL_gskip rfl rfl rfl rfl ?_
                  refine TL_gskip rfl rfl rfl rfl ?_
                  refine TL_gskip rfl rfl rfl rfl ?_
                  refine TL_y rfl rfl (Y_pick_f rfl rfl) ?_
                  refine TL_y rfl rfl (Y_move rfl) ?_
                  refine TL_gskip rfl rfl rfl rfl ?_
                  refine TL_gskip rfl rfl rfl rfl ?_
                  refine TL_gskip rfl rfl rfl rfl ?_
                  refine TL_gskip rfl rfl rfl rfl ?_
                  refine TL_gskip rfl rfl rfl rfl ?_
                  refine TL_y rfl rfl (Y_pick_f rfl rfl) ?_
                  refine TL_chain_end rfl ?_ (by repeat (first | exact sub_refl | refine sub_ext rfl ?_)) GivesTo.g
                  exact congrArg Value.bool (decide_eq_false (by rw [en_eq]; simp_all)).symm
              · refine TL_gskip rfl rfl rfl rfl ?_
                refine TL_gskip rfl rfl rfl rfl ?_
                refine TL_gskip rfl rfl rfl rfl ?_
                refine TL_gskip rfl rfl rfl rfl ?_
                refine TL_gskip rfl rfl rfl rfl ?_
                refine TL_y rfl rfl (Y_pick_f rfl rfl) ?_
                refine TL_y rfl rfl (Y_move rfl) ?_
                refine TL_gskip rfl rfl rfl rfl ?_
                refine TL_gskip rfl rfl rfl rfl ?_
                refine TL_gskip rfl rfl rfl rfl ?_
                refine TL_gskip rfl rfl rfl rfl ?_
                refine TL_gskip rfl rfl rfl rfl ?_
                refine TL_y rfl rfl (Y_pick_f rfl rfl) ?_
                refine TL_y rfl rfl (Y_move rfl) ?_
                refine TL_gskip rfl rfl rfl rfl ?_
                refine TL_gskip rfl rfl rfl rfl ?_
                refine TL_gskip rfl rfl rfl rfl ?_
                refine TL_gskip rfl rfl rfl rfl ?_
                refine TL_gskip rfl rfl rfl rfl ?_
                refine TL_y rfl rfl (Y_pick_f rfl rfl) ?_
                refine TL_chain_end rfl ?_ (by repeat (first | exact sub_refl | refine sub_ext rfl ?_)) GivesTo.g
                exact congrArg Value.bool (decide_eq_false (by rw [en_eq]; simp_all)).symm
            · refine TL_gskip rfl rfl rfl rfl ?_
              refine TL_gskip rfl rfl rfl rfl ?_
              refine TL_gskip rfl rfl rfl rfl ?_
              refine TL_gskip rfl rfl rfl rfl ?_
              refine TL_gskip rfl rfl rfl rfl ?_
              refine TL_y rfl rfl (Y_pick_f rfl rfl) ?_
              refine TL_y rfl rfl (Y_move rfl) ?_
              refine TL_gskip rfl rfl rfl rfl ?_
              refine TL_gskip rfl rfl rfl rfl ?_
              refine TL_gskip rfl rfl rfl rfl ?_
              refine TL_gskip rfl rfl rfl rfl ?_
              refine TL_gskip rfl rfl rfl rfl ?_
              refine TL_y rfl rfl (Y_pick_f rfl rfl) ?_
              refine TL_y rfl rfl (Y_move rfl) ?_
              refine TL_gskip rfl rfl rfl rfl ?_
              refine TL_gskip rfl rfl rfl rfl ?_
              refine TL_gskip rfl rfl rfl rfl ?_
              refine TL_gskip rfl rfl rfl rfl ?_
              refine TL_gskip rfl rfl rfl rfl ?_
              refine TL_y rfl rfl (Y_pick_f rfl rfl) ?_
              refine TL_y rfl rfl (Y_move rfl) ?_
              refine TL_gskip rfl rfl rfl rfl ?_
              refine TL_gskip rfl rfl rfl rfl ?_
              refine TL_gskip rfl rfl rfl rfl ?_
              refine TL_gskip rfl rfl rfl rfl ?_
              refine TL_gskip rfl rfl rfl rfl ?_
              refine TL_y rfl rfl (Y_pick_f rfl rfl) ?_
              refine TL_chain_end rfl ?_ (by repeat (first | exact sub_refl | refine sub_ext rfl ?_)) GivesTo.g
              exact congrArg Value.bool (decide_eq_false (by rw [en_eq]; simp_all)).symm
          · refine TL_gskip rfl rfl rfl rfl ?_
            refine TL_gskip rfl rfl rfl rfl ?_
            refine TL_gskip rfl rfl rfl rfl ?_
            refine TL_gskip rfl rfl rfl rfl ?_
            refine TL_gskip rfl rfl rfl rfl ?_
            refine TL_gskip rfl rfl rfl rfl ?_
            refine TL_gskip rfl rfl rfl rfl ?_
            refine TL_y rfl rfl (Y_pick_f rfl rfl) ?_
            refine TL_y rfl rfl (Y_move rfl) ?_
            refine TL_gskip rfl rfl rfl rfl ?_
            refine TL_gskip rfl rfl rfl rfl ?_
            refine TL_gskip rfl rfl rfl rfl ?_
            refine TL_gskip rfl rfl rfl rfl ?_
            refine TL_gskip rfl rfl rfl rfl ?_
            refine TL_y rfl rfl (Y_pick_f rfl rfl) ?_
            refine TL_y rfl rfl (Y_move rfl) ?_
            refine TL_gskip rfl rfl rfl rfl ?_
            refine TL_gskip rfl rfl rfl rfl ?_
            refine TL_gskip rfl rfl rfl rfl ?_
            refine TL_gskip rfl rfl rfl rfl ?_
            refine TL_gskip rfl rfl rfl rfl ?_
            refine TL_y rfl rfl (Y_pick_f rfl rfl) ?_
            refine TL_y rfl rfl (Y_move rfl) ?_
            refine TL_gskip rfl rfl rfl rfl ?_
            refine TL_gskip rfl rfl rfl rfl ?_
            refine TL_gskip rfl rfl rfl rfl ?_
            refine TL_gskip rfl rfl rfl rfl ?_
            refine TL_gskip rfl rfl rfl rfl ?_
            refine TL_y rfl rfl (Y_pick_f rfl rfl) ?_
            refine TL_y rfl rfl (Y_move rfl) ?_
            refine TL_gskip rfl rfl rfl rfl ?_
            refine TL_gskip rfl rfl rfl rfl ?_
            refine TL_gskip rfl rfl rfl rfl ?_
            refine TL_gskip rfl rfl rfl rfl ?_
            refine TL_gskip rfl rfl rfl rfl ?_
            refine TL_y rfl rfl (Y_pick_f rfl rfl) ?_
            refine TL_chain_end rfl ?_ (by repeat (first | exact sub_refl | refine sub_ext rfl ?_)) GivesTo.g
            exact congrArg Value.bool (decide_eq_false (by rw [en_eq]; simp_all)).symm
        refine TL_y rfl rfl (Y_assign rfl) ?_
        refine TL_nil ?_
        refine T_region_last ?_
        refine TL_y rfl rfl (Y_move rfl) ?_
        refine TL_y rfl rfl (Y_move rfl) ?_
        refine TL_splitd 143 rfl (fun h143 => ?_) (fun h143 => ?_)
        · refine TL_gskip rfl rfl rfl rfl ?_
          refine TL_gskip rfl rfl rfl rfl ?_
          refine TL_y rfl rfl (Y_pick_t rfl rfl) ?_
          refine TL_y rfl rfl (Y_assign rfl) ?_
          refine TL_nil ?_
          refine thenS_normal ?_
          refine T_seq ?_
          refine T_region ?_
          refine TL_y rfl rfl (Y_move rfl) ?_
          refine TL_y rfl rfl (Y_not_t rfl) ?_
          refine TL_nil ?_
          refine T_cond_false rfl ?_
          refine T_skip ?_
          refine thenS_normal ?_
          refine T_region ?_
          refine TL_y rfl rfl (Y_move rfl) ?_
          refine TL_y rfl rfl (Y_bytes_strN rfl sln) ?_
          refine TL_y rfl rfl (Y_build rfl rfl) ?_
          refine TL_store rfl rfl rfl rfl rfl rfl ?_
          refine TL_nil ?_
          refine T_ret ?_
          have hch : chgA s m := by unfold chgA; rw [hg]; simp only [ne_eq, Option.some.injEq, hkey]; simp_all
          have hj : judgeV s m = .agg #[.string (strOfNums (outB (wMsg m ([], false)))), .bool true, .bool false] := by unfold judgeV recA; rw [if_pos ⟨hm, hn, hch⟩, decide_eq_true hm, decide_eq_false (fun h => hn h.2)]
          rw [hj]
          refine RetQ.gives (ac_close b s hi) ?_
          exact RetG_1 (.inl rfl) rfl (ResV.agg rfl rfl) GivesTo.g (⟨rfl, rfl⟩)
        · refine TL_grun rfl rfl ?_
          refine TL_y rfl rfl (Y_move rfl) ?_
          refine TL_grun rfl rfl ?_
          refine TL_y rfl rfl (Y_not_d rfl) ?_
          refine TL_y rfl rfl (Y_pick_f rfl rfl) ?_
          refine TL_y rfl rfl (Y_assign rfl) ?_
          refine TL_nil ?_
          refine thenS_normal ?_
          refine T_seq ?_
          refine T_region ?_
          refine TL_y rfl rfl (Y_move rfl) ?_
          refine TL_y rfl rfl (Y_not_d rfl) ?_
          refine TL_nil ?_
          refine T_if rfl (fun h148 => ?_) (fun h148 => ?_)
          · refine T_region_last ?_
            refine TL_y rfl rfl (Y_assign rfl) ?_
            refine TL_nil ?_
            refine thenS_normal ?_
            refine T_region ?_
            refine TL_y rfl rfl (Y_move rfl) ?_
            refine TL_name 149 (v' := .slice none ([] : List Int).length 0) rfl (rfl) ?_
            refine TL_y rfl rfl (Y_bytes_strN (A := none) (c := 0) (xs := []) rfl .nil) ?_
            refine TL_y rfl rfl (Y_build rfl rfl) ?_
            refine TL_store rfl rfl rfl rfl rfl rfl ?_
            refine TL_nil ?_
            refine T_ret ?_
            have hch : ¬ chgA s m := by unfold chgA; rw [hg]; simp only [ne_eq, Option.some.injEq, hkey]; simp_all
            have hj : judgeV s m = .agg #[.string (strOfNums []), .bool true, .bool false] := by unfold judgeV recA; rw [if_neg (fun h => hch h.2.2), decide_eq_true hm, decide_eq_false (fun h => hn h.2)]; rfl
            rw [hj]
            refine RetQ.gives (ac_close b s hi) ?_
            exact RetG_1 (.inl rfl) rfl (ResV.agg rfl rfl) GivesTo.g (⟨rfl, rfl⟩)
          · refine T_skip ?_
            refine thenS_normal ?_
            refine T_region ?_
            refine TL_y rfl rfl (Y_move rfl) ?_
            refine TL_y rfl rfl (Y_bytes_strN rfl sln) ?_
            refine TL_y rfl rfl (Y_build rfl rfl) ?_
            refine TL_store rfl rfl rfl rfl rfl rfl ?_
            refine TL_nil ?_
            refine T_ret ?_
            have hch : chgA s m := by unfold chgA; rw [hg]; simp only [ne_eq, Option.some.injEq, hkey]; simp_all
            have hj : judgeV s m = .agg #[.string (strOfNums (outB (wMsg m ([], false)))), .bool true, .bool false] := by unfold judgeV recA; rw [if_pos ⟨hm, hn, hch⟩, decide_eq_true hm, decide_eq_false (fun h => hn h.2)]
            rw [hj]
            refine RetQ.gives (ac_close b s hi) ?_
            exact RetG_1 (.inl rfl) rfl (ResV.agg rfl rfl) GivesTo.g (⟨rfl, rfl⟩)
      · refine RD_leaf _ [0, 1, 3, 0, 8, 24, 128, 0, 199, 511] [] [(0, true), (1, true), (2, true), (3, true), (4, true), (5, true), (7, false), (6, false), (8, false), (9, false)] (by decide +kernel) (Gives.refl _) ?_
        refine TF_y rfl rfl (Y_field_addr rfl) ?_
        refine TF_y rfl rfl (Y_field_addr rfl) ?_
        refine TF_y rfl rfl (Y_load_agg rfl rfl) ?_
        refine TF_y rfl rfl (Y_field_addr rfl) ?_
        refine TF_y rfl rfl (Y_field_addr rfl) ?_
        refine TF_y rfl rfl (Y_load_agg rfl rfl) ?_
        refine TF_anchor rfl ?_
        refine TL_alloc rfl rfl ?_
        intro b12
        refine TF_end GivesTo.g ?_
        refine TF_anchor rfl ?_
        refine TL_alloc rfl rfl ?_
        intro b11
        refine TF_end GivesTo.g ?_
        refine TF_anchor rfl ?_
        refine TL_store rfl rfl rfl rfl rfl rfl ?_
        refine TF_end GivesTo.g ?_
        refine TF_anchor rfl ?_
        refine TL_store rfl rfl rfl rfl rfl rfl ?_
        refine TF_end GivesTo.g ?_
        refine TF_nil ?_
        refine thenS_normal ?_
        refine T_region ?_
        refine TL_both 45 141 (u.bal = m.bal ∧ u.en = m.en) ?_ ?_
        · refine TL_y rfl rfl (Y_move rfl) ?_
          refine TL_y rfl rfl (Y_move rfl) ?_
          refine TL_grun rfl rfl ?_
          refine TL_y rfl rfl (Y_field_addr rfl) ?_
          refine TL_grun rfl rfl ?_
          refine TL_y rfl rfl (Y_load_agg rfl rfl) ?_
          refine TL_grun rfl rfl ?_
          refine TL_y rfl rfl (Y_field_addr rfl) ?_
          refine TL_grun rfl rfl ?_
          refine TL_y rfl rfl (Y_load_agg rfl rfl) ?_
          refine TL_grun rfl rfl ?_
          refine TL_y rfl rfl (Y_eq_bal rfl rfl) ?_
          refine TL_y rfl rfl (Y_pick_t rfl rfl) ?_
          refine TL_y rfl rfl (Y_move rfl) ?_
          refine TL_splitd 105 rfl (fun h105 => ?_) (fun h105 => ?_)
          · refine TL_grun rfl rfl ?_
            refine TL_y rfl rfl (Y_field_addr rfl) ?_
            refine TL_grun rfl rfl ?_
            refine TL_y rfl rfl (Y_field_addr rfl) ?_
            refine TL_grun rfl rfl ?_
            refine TL_y rfl rfl (Y_load rfl rfl) ?_
            refine TL_grun rfl rfl ?_
            refine TL_y rfl rfl (Y_field_addr rfl) ?_
            refine TL_grun rfl rfl ?_
            refine TL_y rfl rfl (Y_field_addr rfl) ?_
            refine TL_grun rfl rfl ?_
            refine TL_y rfl rfl (Y_load rfl rfl) ?_
            refine TL_grun rfl rfl ?_
            refine TL_y rfl rfl (Y_equal rfl rfl (EqIs.bool)) ?_
            refine TL_name 112 (v' := .bool (decide (u.en.noop = m.en.noop))) rfl (by cases u.en.noop <;> cases m.en.noop <;> rfl) ?_
            refine TL_y rfl rfl (Y_pick_t rfl rfl) ?_
            refine TL_y rfl rfl (Y_move rfl) ?_
            refine TL_splitd 114 rfl (fun h114 => ?_) (fun h114 => ?_)
            · refine TL_grun rfl rfl ?_
              refine TL_y rfl rfl (Y_field_addr rfl) ?_
              refine TL_grun rfl rfl ?_
              refine TL_y rfl rfl (Y_load rfl rfl) ?_
              refine TL_grun rfl rfl ?_
              refine TL_y rfl rfl (Y_field_addr rfl) ?_
              refine TL_grun rfl rfl ?_
              refine TL_y rfl rfl (Y_load rfl rfl) ?_
              refine TL_grun rfl rfl ?_
              refine TL_y rfl rfl (Y_str_eq rfl rfl) ?_
              refine TL_y rfl rfl (Y_pick_t rfl rfl) ?_
              refine TL_y rfl rfl (Y_move rfl) ?_
              refine TL_splitd 121 rfl (fun h121 => ?_) (fun h121 => ?_)
              · refine TL_grun rfl rfl ?_
                refine TL_y rfl rfl (Y_field_addr rfl) ?_
                refine TL_grun rfl rfl ?_
                refine TL_y rfl rfl (Y_load rfl rfl) ?_
                refine TL_grun rfl rfl ?_
                refine TL_y rfl rfl (Y_field_addr rfl) ?_
                refine TL_grun rfl rfl ?_
                refine TL_y rfl rfl (Y_load rfl rfl) ?_
                refine TL_grun rfl rfl ?_
                refine TL_y rfl rfl (Y_str_eq rfl rfl) ?_
                refine TL_y rfl rfl (Y_pick_t rfl rfl) ?_
                refine TL_y rfl rfl (Y_move rfl) ?_
                refine TL_splitd 128 rfl (fun h128 => ?_) (fun h128 => ?_)
                · refine TL_grun rfl rfl ?_
                  refine TL_y rfl rfl (Y_field_addr rfl) ?_
                  refine TL_grun rfl rfl ?_
                  refine TL_y rfl rfl (Y_load rfl rfl) ?_
                  refine TL_grun rfl rfl ?_
                  refine TL_y rfl rfl (Y_field_addr rfl) ?_
                  refine TL_grun rfl rfl ?_
                  refine TL_y rfl rfl (Y_load rfl rfl) ?_
                  refine TL_grun rfl rfl ?_
                  refine TL_y rfl rfl (Y_eq rfl rfl) ?_
                  refine TL_y rfl rfl (Y_pick_t rfl rfl) ?_
                  refine TL_y rfl rfl (Y_move rfl) ?_
                  refine TL_splitd 135 rfl (fun h135 => ?_) (fun h135 => ?_)
                  · refine TL_grun rfl rfl ?_
                    refine TL_y rfl rfl (Y_field_addr rfl) ?_
                    refine TL_grun rfl rfl ?_
                    refine TL_y rfl rfl (Y_load rfl rfl) ?_
                    refine TL_grun rfl rfl ?_
                    refine TL_y rfl rfl (Y_field_addr rfl) ?_
                    refine TL_grun rfl rfl ?_
                    refine TL_y rfl rfl (Y_load rfl rfl) ?_
                    refine TL_grun rfl rfl ?_
                    refine TL_call rfl rfl (equalInts_spec sln (SlN.of_gives GivesTo.g hk.cut.n)) ?_
                    rintro _ _ ⟨rfl, rfl⟩
                    refine TL_y rfl rfl (Y_pick_t rfl rfl) ?_
                    refine TL_chain_end rfl ?_ (by repeat (first | exact sub_refl | refine sub_ext rfl ?_)) GivesTo.g
                    exact congrArg Value.bool (decide_eq_decide.2 (by rw [en_eq]; simp_all))
                  · refine TL_gskip rfl rfl rfl rfl ?_
                    refine TL_gskip rfl rfl rfl rfl ?_
                    refine TL_gskip rfl rfl rfl rfl ?_
                    refine TL_gskip rfl rfl rfl rfl ?_
                    refine TL_gskip rfl rfl rfl rfl ?_
                    refine TL_y rfl rfl (Y_pick_f rfl rfl) ?_
                    refine TL_chain_end rfl ?_ (by repeat (first | exact sub_refl | refine sub_ext rfl ?_)) GivesTo.g
                    exact congrArg Value.bool (decide_eq_false (by rw [en_eq]; simp_all)).symm
                · refine TL_gskip rfl rfl rfl rfl ?_
                  refine TL_gskip rfl rfl rfl rfl ?_
                  refine TL_gskip rfl rfl rfl rfl ?_
                  refine TL_gskip rfl rfl rfl rfl ?_
                  refine TL_gskip rfl rfl rfl rfl ?_
                  refine TL_y rfl rfl (Y_pick_f rfl rfl) ?_
                  refine TL_y rfl rfl (Y_move rfl) ?_
                  refine TL_gskip rfl rfl rfl rfl ?_
                  refine TL_gskip rfl rfl rfl rfl ?_
                  refine TL_gskip rfl rfl rfl rfl ?_
                  refine TL_gskip rfl rfl rfl rfl ?_
                  refine TL_gskip rfl rfl rfl rfl ?_
                  refine TL_y rfl rfl (Y_pick_f rfl rfl) ?_
                  refine TL_chain_end rfl ?_ (by repeat (first | exact sub_refl | refine sub_ext rfl ?_)) GivesTo.g
                  exact congrArg Value.bool (decide_eq_false (by rw [en_eq]; simp_all)).symm
              · refine TL_gskip rfl rfl rfl rfl ?_
                refine TL_gskip rfl rfl rfl rfl ?_
                refine TL_gskip rfl rfl rfl rfl ?_
                refine TL_gskip rfl rfl rfl rfl ?_
                refine TL_gskip rfl rfl rfl rfl ?_
                refine TL_y rfl rfl (Y_pick_f rfl rfl) ?_
                refine TL_y rfl rfl (Y_move rfl) ?_
                refine TL_gskip rfl rfl rfl rfl ?_
                refine TL_gskip rfl rfl rfl rfl ?_
                refine TL_gskip rfl rfl rfl rfl ?_
                refine TL_gskip rfl rfl rfl rfl ?_
                refine TL_gskip rfl rfl rfl rfl ?_
                refine TL_y rfl rfl (Y_pick_f rfl rfl) ?_
                refine TL_y rfl rfl (Y_move rfl) ?_
                refine TL_gskip rfl rfl rfl rfl ?_
                refine TL_gskip rfl rfl rfl rfl ?_
                refine TL_gskip rfl rfl rfl rfl ?_
                refine TL_gskip rfl rfl rfl rfl ?_
                refine TL_gskip rfl rfl rfl rfl ?_
                refine TL_y rfl rfl (Y_pick_f rfl rfl) ?_
                refine TL_chain_end rfl ?_ (by repeat (first | exact sub_refl | refine sub_ext rfl ?_)) GivesTo.g
                exact congrArg Value.bool (decide_eq_false (by rw [en_eq]; simp_all)).symm
            · refine TL_gskip rfl rfl rfl rfl ?_
              refine TL_gskip rfl rfl rfl rfl ?_
              refine TL_gskip rfl rfl rfl rfl ?_
              refine TL_gskip rfl rfl rfl rfl ?_
              refine TL_gskip rfl rfl rfl rfl ?_
              refine TL_y rfl rfl (Y_pick_f rfl rfl) ?_
              refine TL_y rfl rfl (Y_move rfl) ?_
              refine TL_gskip rfl rfl rfl rfl ?_
              refine TL_gskip rfl rfl rfl rfl ?_
              refine TL_gskip rfl rfl rfl rfl ?_
              refine TL_gskip rfl rfl rfl rfl ?_
              refine TL_gskip rfl rfl rfl rfl ?_
              refine TL_y rfl rfl (Y_pick_f rfl rfl) ?_
              refine TL_y rfl rfl (Y_move rfl) ?_
              refine TL_gskip rfl rfl rfl rfl ?_
              refine TL_gskip rfl rfl rfl rfl ?_
              refine TL_gskip rfl rfl rfl rfl ?_
              refine TL_gskip rfl rfl rfl rfl ?_
              refine TL_gskip rfl rfl rfl rfl ?_
              refine TL_y rfl rfl (Y_pick_f rfl rfl) ?_
              refine TL_y rfl rfl (Y_move rfl) ?_
              refine TL_gskip rfl rfl rfl rfl ?_
              refine TL_gskip rfl rfl rfl rfl ?_
              refine TL_gskip rfl rfl rfl rfl ?_
              refine TL_gskip rfl rfl rfl rfl ?_
              refine TL_gskip rfl rfl rfl rfl ?_
              refine TL_y rfl rfl (Y_pick_f rfl rfl) ?_
              refine TL_chain_end rfl ?_ (by repeat (first | exact sub_refl | refine sub_ext rfl ?_)) GivesTo.g
              exact congrArg Value.bool (decide_eq_false (by rw [en_eq]; simp_all)).symm
          · refine TL_gskip rfl rfl rfl rfl ?_
            refine TL_gskip rfl rfl rfl rfl ?_
            refine TL_gskip rfl rfl rfl rfl ?_
            refine TL_gskip rfl rfl rfl rfl ?_
            refine TL_gskip rfl rfl rfl rfl ?_
            refine TL_gskip rfl rfl rfl rfl ?_
            refine TL_gskip rfl rfl rfl rfl ?_
            refine TL_y rfl rfl (Y_pick_f rfl rfl) ?_
            refine TL_y rfl rfl (Y_move rfl) ?_
            refine TL_gskip rfl rfl rfl rfl ?_
            refine TL_gskip rfl rfl rfl rfl ?_
            refine TL_gskip rfl rfl rfl rfl ?_
            refine TL_gskip rfl rfl rfl rfl ?_
            refine TL_gskip rfl rfl rfl rfl ?_
            refine TL_y rfl rfl (Y_pick_f rfl rfl) ?_
            refine TL_y rfl rfl (Y_move rfl) ?_
            refine TL_gskip rfl rfl rfl rfl ?_
            refine TL_gskip rfl rfl rfl rfl ?_
            refine TL_gskip rfl rfl rfl rfl ?_
            refine TL_gskip rfl rfl rfl rfl ?_
            refine TL_gskip rfl rfl rfl rfl ?_
            refine TL_y rfl rfl (Y_pick_f rfl rfl) ?_
            refine TL_y rfl rfl (Y_move rfl) ?_
            refine TL_gskip rfl rfl rfl rfl ?_
            refine TL_gskip rfl rfl rfl rfl ?_
            refine TL_gskip rfl rfl rfl rfl ?_
            refine TL_gskip rfl rfl rfl rfl ?_
            refine TL_gskip rfl rfl rfl rfl ?_
            refine TL_y rfl rfl (Y_pick_f rfl rfl) ?_
            refine TL_y rfl rfl (Y_move rfl) ?_
            refine TL_gskip rfl rfl rfl rfl ?_
            refine TL_gskip rfl rfl rfl rfl ?_
            refine TL_gskip rfl rfl rfl rfl ?_
            refine TL_gskip rfl rfl rfl rfl ?_
            refine TL_gskip rfl rfl rfl rfl ?_
            refine TL_y rfl rfl (Y_pick_f rfl rfl) ?_
            refine TL_chain_end rfl ?_ (by repeat (first | exact sub_refl | refine sub_ext rfl ?_)) GivesTo.g
            exact congrArg Value.bool (decide_eq_false (by rw [en_eq]; simp_all)).symm
        refine TL_y rfl rfl (Y_assign rfl) ?_
        refine TL_nil ?_
        refine T_region_last ?_
        refine TL_y rfl rfl (Y_move rfl) ?_
        refine TL_y rfl rfl (Y_move rfl) ?_
        refine TL_splitd 143 rfl (fun h143 => ?_) (fun h143 => ?_)
        · refine TL_gskip rfl rfl rfl rfl ?_
          refine TL_gskip rfl rfl rfl rfl ?_
          refine TL_y rfl rfl (Y_pick_t rfl rfl) ?_
          refine TL_y rfl rfl (Y_assign rfl) ?_
          refine TL_nil ?_
          refine thenS_normal ?_
          refine T_seq ?_
          refine T_region ?_
          refine TL_y rfl rfl (Y_move rfl) ?_
          refine TL_y rfl rfl (Y_not_t rfl) ?_
          refine TL_nil ?_
          refine T_cond_false rfl ?_
          refine T_skip ?_
          refine thenS_normal ?_
          refine T_region ?_
          refine TL_y rfl rfl (Y_move rfl) ?_
          refine TL_y rfl rfl (Y_bytes_strN rfl sln) ?_
          refine TL_y rfl rfl (Y_build rfl rfl) ?_
          refine TL_store rfl rfl rfl rfl rfl rfl ?_
          refine TL_nil ?_
          refine T_ret ?_
          have hch : chgA s m := by unfold chgA; rw [hg]; simp only [ne_eq, Option.some.injEq, hkey]; simp_all
          have hj : judgeV s m = .agg #[.string (strOfNums (outB (wMsg m ([], false)))), .bool true, .bool false] := by unfold judgeV recA; rw [if_pos ⟨hm, hn, hch⟩, decide_eq_true hm, decide_eq_false (fun h => hn h.2)]
          rw [hj]
          refine RetQ.gives (ac_close b s hi) ?_
          exact RetG_1 (.inl rfl) rfl (ResV.agg rfl rfl) GivesTo.g (⟨rfl, rfl⟩)
        · refine TL_grun rfl rfl ?_
          refine TL_y rfl rfl (Y_move rfl) ?_
          refine TL_grun rfl rfl ?_
          refine TL_y rfl rfl (Y_not_d rfl) ?_
          refine TL_y rfl rfl (Y_pick_f rfl rfl) ?_
          refine TL_y rfl rfl (Y_assign rfl) ?_
          refine TL_nil ?_
          refine thenS_normal ?_
          refine T_seq ?_
          refine T_region ?_
          refine TL_y rfl rfl (Y_move rfl) ?_
          refine TL_y rfl rfl (Y_not_d rfl) ?_
          refine TL_nil ?_
          refine T_if rfl (fun h148 => ?_) (fun h148 => ?_)
          · refine T_region_last ?_
            refine TL_y rfl rfl (Y_assign rfl) ?_
            refine TL_nil ?_
            refine thenS_normal ?_
            refine T_region ?_
            refine TL_y rfl rfl (Y_move rfl) ?_
            refine TL_name 149 (v' := .slice none ([] : List Int).length 0) rfl (rfl) ?_
            refine TL_y rfl rfl (Y_bytes_strN (A := none) (c := 0) (xs := []) rfl .nil) ?_
            refine TL_y rfl rfl (Y_build rfl rfl) ?_
            refine TL_store rfl rfl rfl rfl rfl rfl ?_
            refine TL_nil ?_
            refine T_ret ?_
            have hch : ¬ chgA s m := by unfold chgA; rw [hg]; simp only [ne_eq, Option.some.injEq, hkey]; simp_all
            have hj : judgeV s m = .agg #[.string (strOfNums []), .bool true, .bool false] := by unfold judgeV recA; rw [if_neg (fun h => hch h.2.2), decide_eq_true hm, decide_eq_false (fun h => hn h.2)]; rfl
            rw [hj]
            refine RetQ.gives (ac_close b s hi) ?_
            exact RetG_1 (.inl rfl) rfl (ResV.agg rfl rfl) GivesTo.g (⟨rfl, rfl⟩)
          · refine T_skip ?_
            refine thenS_normal ?_
            refine T_region ?_
            refine TL_y rfl rfl (Y_move rfl) ?_
            refine TL_y rfl rfl (Y_bytes_strN rfl sln) ?_
            refine TL_y rfl rfl (Y_build rfl rfl) ?_
            refine TL_store rfl rfl rfl rfl rfl rfl ?_
            refine TL_nil ?_
            refine T_ret ?_
            have hch : chgA s m := by unfold chgA; rw [hg]; simp only [ne_eq, Option.some.injEq, hkey]; simp_all
            have hj : judgeV s m = .agg #[.string (strOfNums (outB (wMsg m ([], false)))), .bool true, .bool false] := by unfold judgeV recA; rw [if_pos ⟨hm, hn, hch⟩, decide_eq_true hm, decide_eq_false (fun h => hn h.2)]
            rw [hj]
            refine RetQ.gives (ac_close b s hi) ?_
            exact RetG_1 (.inl rfl) rfl (ResV.agg rfl rfl) GivesTo.g (⟨rfl, rfl⟩)
theorem acJudge_spec {L : List HP} {b : Nat} {s : AccD} (m : MsgD) (p : MsgP) (hx : MsgOk m) (hk : MsgK L m p) (hc : cMsg m ≤ 140737488355328) : Fn Tryz.prog 14 #[.pointer (some ⟨b, 0, none⟩), .agg (List.toArray (msgC m p))] (ac b s :: L) (fun v L' => v = judgeV s m ∧ L' = ac b s :: L) := by
  by_cases hm : mineA s m
  · rcases hm.2.2 with h1 | h3
    · exact acJudge_prep m p hx hk hc hm h1
    · rcases hg : getM (vmap s.V) m.slot with _ | u
      · exact acJudge_accN m p hx hk hc hm h3 hg
      · exact acJudge_accS m p hx hk hc hm h3 hg
  · exact acJudge_bad m p hx hk hc hm
end Go.SL
set_option linter.unusedVariables false
set_option linter.unusedSimpArgs false
namespace Go.SL
open Go Go.Proofs
end Go.SL
set_option linter.unusedVariables false
set_option linter.unusedSimpArgs false
namespace Go.SL
open Go Go.Proofs
abbrev mP0 : MsgP := ⟨(none, 0), (none, 0), (none, 0), (none, 0)⟩
theorem mL_nil {m : MsgD} {L : List HP} (h1 : m.en.order.cut = []) (h2 : m.voted = []) (h3 : m.seen = []) (h4 : m.events = []) : Gives L (mL m mP0 L) := by
  unfold mL
  rw [h1, h2, h3, h4]
  exact (slnil.lay).trans (Gives.trans (slnil.lay) (Gives.trans (slnil.lay) (slnil.lay)))
theorem acOn_bad {L : List HP} {b : Nat} {s : AccD} (m : MsgD) (p : MsgP) (hx : MsgOk m) (hk : MsgK L m p) (hc : cMsg m ≤ 140737488355328) (hm : ¬ mineA s m) : Fn Tryz.prog 10 #[.pointer (some ⟨b, 0, none⟩), .agg (List.toArray (msgC m p))] (ac b s :: L) (fun v L' => ∃ q, v = .tuple #[.agg (List.toArray (msgC (repA s m) q)), .string (recA s m), .bool (decide (mineA s m))] ∧ L' = mL (repA s m) q (ac b (stA s m) :: L)) := by
  have e1 : repA s m = ⟨0, 0, 0, (0, 0), 0, ⟨false, ⟨⟨#[]⟩, ⟨#[]⟩, 0, []⟩⟩, [], [], [], 0⟩ := by unfold repA; rw [if_neg hm]
  have e2 : recA s m = ⟨#[]⟩ := by unfold recA; rw [if_neg (fun h => hm h.1)]
  have e3 : stA s m = s := by unfold stA; rw [if_neg (fun h => hm h.1)]
  rw [e1, e2, e3, decide_eq_false hm]
  refine Fn_enter Tryz.func10 rfl rfl rfl rfl ?_
  refine T_region ?_
  refine TL_box rfl rfl rfl ?_
  intro b3
  refine TL_alloc rfl rfl ?_
  intro b4
  refine TL_y rfl rfl (Y_assign rfl) ?_
  refine TL_y rfl rfl (Y_assign rfl) ?_
  refine TL_nil ?_
  refine T_region ?_
  refine TL_y rfl rfl (Y_move rfl) ?_
  refine TL_y rfl rfl (Y_load_agg rfl rfl) ?_
  refine TL_pullk b ?_
  refine TL_call rfl rfl (acJudge_spec m p hx hk.tail.tail hc) ?_
  rintro _ _ ⟨rfl, rfl⟩
  refine TL_name 11 (v' := .agg #[.string (recA s m), .bool (decide (mineA s m)), .bool (decide (mineA s m ∧ nackA s m))]) rfl (rfl) ?_
  refine TL_alloc rfl rfl ?_
  intro b7
  refine TL_store rfl rfl rfl rfl rfl rfl ?_
  refine TL_nil ?_
  refine T_seq ?_
  refine T_region ?_
  refine TL_y rfl rfl (Y_field_addr rfl) ?_
  refine TL_y rfl rfl (Y_load rfl rfl) ?_
  refine TL_name 13 (v' := .bool false) rfl (congrArg Value.bool (decide_eq_false hm)) ?_
  refine TL_y rfl rfl (Y_not_f rfl) ?_
  refine TL_nil ?_
  refine T_cond_true rfl ?_
  refine T_region ?_
  refine TL_y rfl rfl (Y_build rfl rfl) ?_
  refine TL_store rfl rfl rfl rfl rfl rfl ?_
  refine TL_y rfl rfl (Y_assign rfl) ?_
  refine TL_y rfl rfl (Y_assign rfl) ?_
  refine TL_nil ?_
  refine T_ret ?_
  refine thenS_ret ?_
  refine RetQ.gives (mL_nil (m := ⟨0, 0, 0, (0, 0), 0, ⟨false, ⟨⟨#[]⟩, ⟨#[]⟩, 0, []⟩⟩, [], [], [], 0⟩) rfl rfl rfl rfl) ?_
  exact RetG_3 (.inl rfl) rfl (ResV.agg rfl rfl) (ResV.tmp rfl) (ResV.tmp rfl) GivesTo.g (⟨mP0, rfl, rfl⟩)
end Go.SL
set_option linter.unusedVariables false
set_option linter.unusedSimpArgs false
namespace Go.SL
open Go Go.Proofs
theorem mL_voted {m : MsgD} {L : List HP} {A : Option Addr} {c : Nat} (h1 : m.en.order.cut = []) (h3 : m.seen = []) (h4 : m.events = []) (hk : SlK L votedR A c m.voted) : Gives L (mL m ⟨(none, 0), (A, c), (none, 0), (none, 0)⟩ L) := by
  unfold mL
  rw [h1, h3, h4]
  exact (slnil.lay).trans (Gives.trans (slnil.lay) (Gives.trans (SlK.lay hk.tail.tail) (slnil.lay)))
theorem acOn_nack {L : List HP} {b : Nat} {s : AccD} (m : MsgD) (p : MsgP) (hx : MsgOk m) (hk : MsgK L m p) (hc : cMsg m ≤ 140737488355328) (hm : mineA s m) (hn : nackA s m) : Fn Tryz.prog 10 #[.pointer (some ⟨b, 0, none⟩), .agg (List.toArray (msgC m p))] (ac b s :: L) (fun v L' => ∃ q, v = .tuple #[.agg (List.toArray (msgC (repA s m) q)), .string (recA s m), .bool (decide (mineA s m))] ∧ L' = mL (repA s m) q (ac b (stA s m) :: L)) := by
  have e1 : repA s m = repM s m 5 s.prom [] := by unfold repA; rw [if_pos hm, if_pos hn]
  have e2 : recA s m = ⟨#[]⟩ := by unfold recA; rw [if_neg (fun h => h.2.1 hn)]
  have e3 : stA s m = s := by unfold stA; rw [if_neg (fun h => h.2 hn)]
  rw [e1, e2, e3, decide_eq_true hm]
  refine Fn_enter Tryz.func10 rfl rfl rfl rfl ?_
  refine T_region ?_
  refine TL_box rfl rfl rfl ?_
  intro b3
  refine TL_alloc rfl rfl ?_
  intro b4
  refine TL_y rfl rfl (Y_assign rfl) ?_
  refine TL_y rfl rfl (Y_assign rfl) ?_
  refine TL_nil ?_
  refine T_region ?_
  refine TL_y rfl rfl (Y_move rfl) ?_
  refine TL_y rfl rfl (Y_load_agg rfl rfl) ?_
  refine TL_pullk b ?_
  refine TL_call rfl rfl (acJudge_spec m p hx hk.tail.tail hc) ?_
  rintro _ _ ⟨rfl, rfl⟩
  refine TL_name 11 (v' := .agg #[.string (recA s m), .bool (decide (mineA s m)), .bool (decide (mineA s m ∧ nackA s m))]) rfl (rfl) ?_
  refine TL_alloc rfl rfl ?_
  intro b7
  refine TL_store rfl rfl rfl rfl rfl rfl ?_
  refine TL_nil ?_
  refine T_seq ?_
  refine T_region ?_
  refine TL_y rfl rfl (Y_field_addr rfl) ?_
  refine TL_y rfl rfl (Y_load rfl rfl) ?_
  refine TL_name 13 (v' := .bool true) rfl (congrArg Value.bool (decide_eq_true hm)) ?_
  refine TL_y rfl rfl (Y_not_t rfl) ?_
  refine TL_nil ?_
  refine T_cond_false rfl ?_
  refine T_skip ?_
  refine thenS_normal ?_
  refine T_pullk b ?_
  refine T_ac fun bt hi => ?_
  refine T_region_draw _ [0, 1, 3, 7, 0, 16, 0, 64, 192, 448, 0, 1024, 0, 8191, 0, 32767] [] [(0, true), (1, true), (2, true), (3, true), (4, true), (5, true), (6, true), (7, true), (8, true), (9, true), (10, true), (11, true), (12, true), (13, true), (14, false), (15, false)] (by kernel_rfl) (by decide +kernel) (Gives.refl _) ?_
  refine TF_y rfl rfl (Y_move rfl) ?_
  refine TF_y rfl rfl (Y_nil_check rfl) ?_
  refine TF_y rfl rfl (Y_field_addr rfl) ?_
  refine TF_y rfl rfl (Y_load rfl rfl) ?_
  refine TF_y rfl rfl (Y_field_addr rfl) ?_
  refine TF_y rfl rfl (Y_load rfl rfl) ?_
  refine TF_y rfl rfl (Y_move rfl) ?_
  refine TF_y rfl rfl (Y_nil_check rfl) ?_
  refine TF_y rfl rfl (Y_field_addr rfl) ?_
  refine TF_y rfl rfl (Y_load_agg rfl rfl) ?_
  refine TF_y rfl rfl (Y_field_addr rfl) ?_
  refine TF_y rfl rfl (Y_load rfl rfl) ?_
  refine TF_y rfl rfl (Y_build rfl rfl) ?_
  refine TF_y rfl rfl (Y_build rfl rfl) ?_
  refine TF_anchor rfl ?_
  refine TL_alloc rfl rfl ?_
  intro b8
  refine TF_end GivesTo.g ?_
  refine TF_anchor rfl ?_
  refine TL_store rfl rfl rfl rfl rfl rfl ?_
  refine TF_end GivesTo.g ?_
  refine TF_nil ?_
  refine T_seq ?_
  refine T_region ?_
  refine TL_y rfl rfl (Y_field_addr rfl) ?_
  refine TL_y rfl rfl (Y_load rfl rfl) ?_
  refine TL_name 31 (v' := .bool true) rfl (congrArg Value.bool (decide_eq_true ⟨hm, hn⟩)) ?_
  refine TL_nil ?_
  refine T_cond_true rfl ?_
  refine T_region ?_
  refine TL_y rfl rfl (Y_load_agg rfl rfl) ?_
  refine TL_store rfl rfl rfl rfl rfl rfl ?_
  refine TL_y rfl rfl (Y_assign rfl) ?_
  refine TL_y rfl rfl (Y_assign rfl) ?_
  refine TL_nil ?_
  refine T_ret ?_
  refine thenS_ret ?_
  refine RetQ.gives (ac_close b s hi) ?_
  refine RetQ.gives (mL_nil (m := repM s m 5 s.prom []) rfl rfl rfl rfl) ?_
  exact RetG_3 (.inl rfl) rfl (ResV.agg rfl rfl) (ResV.tmp rfl) (ResV.tmp rfl) GivesTo.g (⟨mP0, rfl, rfl⟩)
theorem acOn_prep {L : List HP} {b : Nat} {s : AccD} (m : MsgD) (p : MsgP) (hx : MsgOk m) (hk : MsgK L m p) (hc : cMsg m ≤ 140737488355328) (hm : mineA s m) (hn : ¬ nackA s m) (h1 : m.kind = 1) : Fn Tryz.prog 10 #[.pointer (some ⟨b, 0, none⟩), .agg (List.toArray (msgC m p))] (ac b s :: L) (fun v L' => ∃ q, v = .tuple #[.agg (List.toArray (msgC (repA s m) q)), .string (recA s m), .bool (decide (mineA s m))] ∧ L' = mL (repA s m) q (ac b (stA s m) :: L)) := by
  have e1 : repA s m = repM s m 2 m.bal (aboveV s.V m.slot) := by unfold repA; rw [if_pos hm, if_neg hn, if_pos h1]
  have e3 : stA s m = ⟨s.node, m.bal, s.V⟩ := by unfold stA; rw [if_pos ⟨hm, hn⟩, if_pos h1]
  have hst := fun hi : AI s => hi.step hx
  rw [e3] at hst
  rw [e1, e3, decide_eq_true hm]
  refine Fn_enter Tryz.func10 rfl rfl rfl rfl ?_
  refine T_region ?_
  refine TL_box rfl rfl rfl ?_
  intro b3
  refine TL_alloc rfl rfl ?_
  intro b4
  refine TL_y rfl rfl (Y_assign rfl) ?_
  refine TL_y rfl rfl (Y_assign rfl) ?_
  refine TL_nil ?_
  refine T_region ?_
  refine TL_y rfl rfl (Y_move rfl) ?_
  refine TL_y rfl rfl (Y_load_agg rfl rfl) ?_
  refine TL_pullk b ?_
  refine TL_call rfl rfl (acJudge_spec m p hx hk.tail.tail hc) ?_
  rintro _ _ ⟨rfl, rfl⟩
  refine TL_name 11 (v' := .agg #[.string (recA s m), .bool (decide (mineA s m)), .bool (decide (mineA s m ∧ nackA s m))]) rfl (rfl) ?_
  refine TL_alloc rfl rfl ?_
  intro b7
  refine TL_store rfl rfl rfl rfl rfl rfl ?_
  refine TL_nil ?_
  refine T_seq ?_
  refine T_region ?_
  refine TL_y rfl rfl (Y_field_addr rfl) ?_
  refine TL_y rfl rfl (Y_load rfl rfl) ?_
  refine TL_name 13 (v' := .bool true) rfl (congrArg Value.bool (decide_eq_true hm)) ?_
  refine TL_y rfl rfl (Y_not_t rfl) ?_
  refine TL_nil ?_
  refine T_cond_false rfl ?_
  refine T_skip ?_
  refine thenS_normal ?_
  refine T_pullk b ?_
  refine T_ac fun bt hi => ?_
  refine T_region_draw _ [0, 1, 3, 7, 0, 16, 0, 64, 192, 448, 0, 1024, 0, 8191, 0, 32767] [] [(0, true), (1, true), (2, true), (3, true), (4, true), (5, true), (6, true), (7, true), (8, true), (9, true), (10, true), (11, true), (12, true), (13, true), (14, false), (15, false)] (by kernel_rfl) (by decide +kernel) (Gives.refl _) ?_
  refine TF_y rfl rfl (Y_move rfl) ?_
  refine TF_y rfl rfl (Y_nil_check rfl) ?_
  refine TF_y rfl rfl (Y_field_addr rfl) ?_
  refine TF_y rfl rfl (Y_load rfl rfl) ?_
  refine TF_y rfl rfl (Y_field_addr rfl) ?_
  refine TF_y rfl rfl (Y_load rfl rfl) ?_
  refine TF_y rfl rfl (Y_move rfl) ?_
  refine TF_y rfl rfl (Y_nil_check rfl) ?_
  refine TF_y rfl rfl (Y_field_addr rfl) ?_
  refine TF_y rfl rfl (Y_load_agg rfl rfl) ?_
  refine TF_y rfl rfl (Y_field_addr rfl) ?_
  refine TF_y rfl rfl (Y_load rfl rfl) ?_
  refine TF_y rfl rfl (Y_build rfl rfl) ?_
  refine TF_y rfl rfl (Y_build rfl rfl) ?_
  refine TF_anchor rfl ?_
  refine TL_alloc rfl rfl ?_
  intro b8
  refine TF_end GivesTo.g ?_
  refine TF_anchor rfl ?_
  refine TL_store rfl rfl rfl rfl rfl rfl ?_
  refine TF_end GivesTo.g ?_
  refine TF_nil ?_
  refine T_seq ?_
  refine T_region ?_
  refine TL_y rfl rfl (Y_field_addr rfl) ?_
  refine TL_y rfl rfl (Y_load rfl rfl) ?_
  refine TL_name 31 (v' := .bool false) rfl (congrArg Value.bool (decide_eq_false fun h => hn h.2)) ?_
  refine TL_nil ?_
  refine T_cond_false rfl ?_
  refine T_skip ?_
  refine thenS_normal ?_
  refine T_region_draw (cells b3 (msgC m p) 49 :: []) [0, 0, 2, 0, 8, 7, 39, 103, 255, 511] [] [(0, true), (1, true), (2, true), (3, true), (4, true), (5, true), (6, true), (7, false), (8, true), (9, false)] (by kernel_rfl) (by decide +kernel) GivesTo.g ?_
  refine TF_y rfl rfl (Y_move rfl) ?_
  refine TF_y rfl rfl (Y_field_addr rfl) ?_
  refine TF_y rfl rfl (Y_load_agg rfl rfl) ?_
  refine TF_y rfl rfl (Y_field_addr rfl) ?_
  refine TF_y rfl rfl (Y_load_agg rfl rfl) ?_
  refine TF_y rfl rfl (Y_nil_check rfl) ?_
  refine TF_y rfl rfl (Y_field_addr rfl) ?_
  refine TF_anchor rfl ?_
  refine TL_store rfl rfl rfl rfl rfl rfl ?_
  refine TF_end GivesTo.g ?_
  refine TF_y rfl rfl (Y_field_addr rfl) ?_
  refine TF_anchor rfl ?_
  refine TL_store rfl rfl rfl rfl rfl rfl ?_
  refine TF_end GivesTo.g ?_
  refine TF_nil ?_
  refine T_seq ?_
  refine T_gives (ac_close (bt := bt) b ⟨s.node, m.bal, s.V⟩ (hst hi)) ?_
  refine T_region ?_
  refine TL_y rfl rfl (Y_field_addr rfl) ?_
  refine TL_y rfl rfl (Y_load rfl rfl) ?_
  refine TL_y rfl rfl (Y_eq rfl rfl) ?_
  refine TL_name 43 (v' := .bool true) rfl (congrArg Value.bool (decide_eq_true h1)) ?_
  refine TL_nil ?_
  refine T_cond_true rfl ?_
  refine T_region ?_
  refine TL_y rfl rfl (Y_move rfl) ?_
  refine TL_y rfl rfl (Y_field_addr rfl) ?_
  refine TL_y rfl rfl (Y_load rfl rfl) ?_
  refine TL_pullk b ?_
  refine TL_call rfl rfl (acAbove_spec (s := ⟨s.node, m.bal, s.V⟩) m.slot) ?_
  rintro _ _ ⟨A47, c47, rfl, rfl⟩
  refine TL_freeze_osl ?_
  refine TL_y rfl rfl (Y_field_addr rfl) ?_
  refine TL_store rfl rfl rfl rfl rfl rfl ?_
  refine TL_y rfl rfl (Y_field_addr rfl) ?_
  refine TL_store rfl rfl rfl rfl rfl rfl ?_
  refine TL_nil ?_
  refine T_region_draw (cells b8 [.int .i64 2, .int .i64 s.node, .int .i64 m.frm, .int .i64 m.bal.1, .int .i64 m.bal.2, .int .i64 m.slot, .bool true, .string ⟨#[]⟩, .string ⟨#[]⟩, .int .i64 0, .slice none 0 0, .slice A47 (aboveV s.V m.slot).length c47, .slice none 0 0, .slice none 0 0, .int .i64 0] 49 :: cells b7 [.string (recA s m), .bool (decide (mineA s m)), .bool (decide (mineA s m ∧ nackA s m))] 57 :: []) [0, 0, 2, 1, 15, 31] [] [(0, true), (1, true), (2, true), (3, false), (4, true), (5, true)] (by kernel_rfl) (by decide +kernel) GivesTo.g ?_
  refine TF_y rfl rfl (Y_load_agg rfl rfl) ?_
  refine TF_y rfl rfl (Y_field_addr rfl) ?_
  refine TF_y rfl rfl (Y_load rfl rfl) ?_
  refine TF_anchor rfl ?_
  refine TL_store rfl rfl rfl rfl rfl rfl ?_
  refine TF_end GivesTo.g ?_
  refine TF_y rfl rfl (Y_assign rfl) ?_
  refine TF_y rfl rfl (Y_assign rfl) ?_
  refine TF_nil ?_
  refine T_ret ?_
  refine thenS_ret ?_
  refine RetQ.gives (mL_voted (m := repM s m 2 m.bal (aboveV s.V m.slot)) rfl rfl rfl (slk (A := A47) (c := c47))) ?_
  exact RetG_3 (.inl rfl) rfl (ResV.agg rfl rfl) (ResV.tmp rfl) (ResV.tmp rfl) GivesTo.g (⟨⟨(none, 0), (A47, c47), (none, 0), (none, 0)⟩, rfl, rfl⟩)
theorem acOn_acc {L : List HP} {b : Nat} {s : AccD} (m : MsgD) (p : MsgP) (hx : MsgOk m) (hk : MsgK L m p) (hc : cMsg m ≤ 140737488355328) (hm : mineA s m) (hn : ¬ nackA s m) (h1 : ¬ m.kind = 1) : Fn Tryz.prog 10 #[.pointer (some ⟨b, 0, none⟩), .agg (List.toArray (msgC m p))] (ac b s :: L) (fun v L' => ∃ q, v = .tuple #[.agg (List.toArray (msgC (repA s m) q)), .string (recA s m), .bool (decide (mineA s m))] ∧ L' = mL (repA s m) q (ac b (stA s m) :: L)) := by
  have e1 : repA s m = repM s m 4 m.bal [] := by unfold repA; rw [if_pos hm, if_neg hn, if_neg h1]
  have e3 : stA s m = ⟨s.node, m.bal, putV s.V (newV m)⟩ := by unfold stA; rw [if_pos ⟨hm, hn⟩, if_neg h1]
  have hst := fun hi : AI s => hi.step hx
  have hvo : votedOk (newV m) := ⟨hx.slot, hx.b1, hx.b2, hx.en⟩
  rw [e3] at hst
  rw [e1, e3, decide_eq_true hm]
  refine Fn_enter Tryz.func10 rfl rfl rfl rfl ?_
  refine T_region ?_
  refine TL_box rfl rfl rfl ?_
  intro b3
  refine TL_alloc rfl rfl ?_
  intro b4
  refine TL_y rfl rfl (Y_assign rfl) ?_
  refine TL_y rfl rfl (Y_assign rfl) ?_
  refine TL_nil ?_
  refine T_region ?_
  refine TL_y rfl rfl (Y_move rfl) ?_
  refine TL_y rfl rfl (Y_load_agg rfl rfl) ?_
  refine TL_pullk b ?_
  refine TL_call rfl rfl (acJudge_spec m p hx hk.tail.tail hc) ?_
  rintro _ _ ⟨rfl, rfl⟩
  refine TL_name 11 (v' := .agg #[.string (recA s m), .bool (decide (mineA s m)), .bool (decide (mineA s m ∧ nackA s m))]) rfl (rfl) ?_
  refine TL_alloc rfl rfl ?_
  intro b7
  refine TL_store rfl rfl rfl rfl rfl rfl ?_
  refine TL_nil ?_
  refine T_seq ?_
  refine T_region ?_
  refine TL_y rfl rfl (Y_field_addr rfl) ?_
  refine TL_y rfl rfl (Y_load rfl rfl) ?_
  refine TL_name 13 (v' := .bool true) rfl (congrArg Value.bool (decide_eq_true hm)) ?_
  refine TL_y rfl rfl (Y_not_t rfl) ?_
  refine TL_nil ?_
  refine T_cond_false rfl ?_
  refine T_skip ?_
  refine thenS_normal ?_
  refine T_pullk b ?_
  refine T_ac fun bt hi => ?_
  refine T_region_draw _ [0, 1, 3, 7, 0, 16, 0, 64, 192, 448, 0, 1024, 0, 8191, 0, 32767] [] [(0, true), (1, true), (2, true), (3, true), (4, true), (5, true), (6, true), (7, true), (8, true), (9, true), (10, true), (11, true), (12, true), (13, true), (14, false), (15, false)] (by kernel_rfl) (by decide +kernel) (Gives.refl _) ?_
  refine TF_y rfl rfl (Y_move rfl) ?_
  refine TF_y rfl rfl (Y_nil_check rfl) ?_
  refine TF_y rfl rfl (Y_field_addr rfl) ?_
  refine TF_y rfl rfl (Y_load rfl rfl) ?_
  refine TF_y rfl rfl (Y_field_addr rfl) ?_
  refine TF_y rfl rfl (Y_load rfl rfl) ?_
  refine TF_y rfl rfl (Y_move rfl) ?_
  refine TF_y rfl rfl (Y_nil_check rfl) ?_
  refine TF_y rfl rfl (Y_field_addr rfl) ?_
  refine TF_y rfl rfl (Y_load_agg rfl rfl) ?_
  refine TF_y rfl rfl (Y_field_addr rfl) ?_
  refine TF_y rfl rfl (Y_load rfl rfl) ?_
  refine TF_y rfl rfl (Y_build rfl rfl) ?_
  refine TF_y rfl rfl (Y_build rfl rfl) ?_
  refine TF_anchor rfl ?_
  refine TL_alloc rfl rfl ?_
  intro b8
  refine TF_end GivesTo.g ?_
  refine TF_anchor rfl ?_
  refine TL_store rfl rfl rfl rfl rfl rfl ?_
  refine TF_end GivesTo.g ?_
  refine TF_nil ?_
  refine T_seq ?_
  refine T_region ?_
  refine TL_y rfl rfl (Y_field_addr rfl) ?_
  refine TL_y rfl rfl (Y_load rfl rfl) ?_
  refine TL_name 31 (v' := .bool false) rfl (congrArg Value.bool (decide_eq_false fun h => hn h.2)) ?_
  refine TL_nil ?_
  refine T_cond_false rfl ?_
  refine T_skip ?_
  refine thenS_normal ?_
  refine T_region_draw (cells b3 (msgC m p) 49 :: []) [0, 0, 2, 0, 8, 7, 39, 103, 255, 511] [] [(0, true), (1, true), (2, true), (3, true), (4, true), (5, true), (6, true), (7, false), (8, true), (9, false)] (by kernel_rfl) (by decide +kernel) GivesTo.g ?_
  refine TF_y rfl rfl (Y_move rfl) ?_
  refine TF_y rfl rfl (Y_field_addr rfl) ?_
  refine TF_y rfl rfl (Y_load_agg rfl rfl) ?_
  refine TF_y rfl rfl (Y_field_addr rfl) ?_
  refine TF_y rfl rfl (Y_load_agg rfl rfl) ?_
  refine TF_y rfl rfl (Y_nil_check rfl) ?_
  refine TF_y rfl rfl (Y_field_addr rfl) ?_
  refine TF_anchor rfl ?_
  refine TL_store rfl rfl rfl rfl rfl rfl ?_
  refine TF_end GivesTo.g ?_
  refine TF_y rfl rfl (Y_field_addr rfl) ?_
  refine TF_anchor rfl ?_
  refine TL_store rfl rfl rfl rfl rfl rfl ?_
  refine TF_end GivesTo.g ?_
  refine TF_nil ?_
  refine T_seq ?_
  refine T_region ?_
  refine TL_y rfl rfl (Y_field_addr rfl) ?_
  refine TL_y rfl rfl (Y_load rfl rfl) ?_
  refine TL_y rfl rfl (Y_eq rfl rfl) ?_
  refine TL_name 43 (v' := .bool false) rfl (congrArg Value.bool (decide_eq_false h1)) ?_
  refine TL_nil ?_
  refine T_cond_false rfl ?_
  refine T_skip ?_
  refine thenS_normal ?_
  refine T_region_draw _ [0, 1, 3, 7, 0, 16, 0, 64, 0, 256, 0, 1024, 4032, 8128, 16383] [14] [(0, true), (1, true), (2, true), (3, true), (4, true), (5, true), (6, true), (7, true), (8, true), (9, true), (10, true), (11, true), (12, true), (13, false), (14, false)] (by kernel_rfl) (by decide +kernel) (Gives.refl _) ?_
  refine TF_y rfl rfl (Y_move rfl) ?_
  refine TF_y rfl rfl (Y_nil_check rfl) ?_
  refine TF_y rfl rfl (Y_field_addr rfl) ?_
  refine TF_y rfl rfl (Y_load rfl rfl) ?_
  refine TF_y rfl rfl (Y_field_addr rfl) ?_
  refine TF_y rfl rfl (Y_load rfl rfl) ?_
  refine TF_y rfl rfl (Y_field_addr rfl) ?_
  refine TF_y rfl rfl (Y_load rfl rfl) ?_
  refine TF_y rfl rfl (Y_field_addr rfl) ?_
  refine TF_y rfl rfl (Y_load_agg rfl rfl) ?_
  refine TF_y rfl rfl (Y_field_addr rfl) ?_
  refine TF_y rfl rfl (Y_load_agg rfl rfl) ?_
  refine TF_y rfl rfl (Y_build rfl rfl) ?_
  refine TF_anchor rfl ?_
  refine TL_call rfl rfl (acCopied_spec (newV m) (A := p.cut.1) (c := p.cut.2) (SlN.of_gives GivesTo.g hk.cut.n) hx.en) ?_
  rintro _ _ ⟨q, rfl, rfl⟩
  refine TL_freeze_osl ?_
  refine TF_end GivesTo.g ?_
  refine TF_anchor rfl ?_
  refine TL_update (R := votedR) (k := m.slot) (u := newV m) (cs := votedC (newV m) q) (vmap (putV s.V (newV m))) rfl rfl rfl hx.slot (ex_rep q (sep_sl slk) hvo) (put_perm (V := s.V) (v := newV m)) ?_
  refine TF_end_tail rfl ?_
  refine TF_nil ?_
  refine T_region ?_
  refine TL_y rfl rfl (Y_field_addr rfl) ?_
  refine TL_store rfl rfl rfl rfl rfl rfl ?_
  refine TL_nil ?_
  refine T_region_draw (cells b8 [.int .i64 4, .int .i64 s.node, .int .i64 m.frm, .int .i64 m.bal.1, .int .i64 m.bal.2, .int .i64 m.slot, .bool true, .string ⟨#[]⟩, .string ⟨#[]⟩, .int .i64 0, .slice none 0 0, .slice none 0 0, .slice none 0 0, .slice none 0 0, .int .i64 0] 49 :: cells b7 [.string (recA s m), .bool (decide (mineA s m)), .bool (decide (mineA s m ∧ nackA s m))] 57 :: []) [0, 0, 2, 1, 15, 31] [] [(0, true), (1, true), (2, true), (3, false), (4, true), (5, true)] (by kernel_rfl) (by decide +kernel) GivesTo.g ?_
  refine TF_y rfl rfl (Y_load_agg rfl rfl) ?_
  refine TF_y rfl rfl (Y_field_addr rfl) ?_
  refine TF_y rfl rfl (Y_load rfl rfl) ?_
  refine TF_anchor rfl ?_
  refine TL_store rfl rfl rfl rfl rfl rfl ?_
  refine TF_end GivesTo.g ?_
  refine TF_y rfl rfl (Y_assign rfl) ?_
  refine TF_y rfl rfl (Y_assign rfl) ?_
  refine TF_nil ?_
  refine T_ret ?_
  refine RetQ.gives (ac_close (bt := bt) b ⟨s.node, m.bal, putV s.V (newV m)⟩ (hst hi)) ?_
  refine RetQ.gives (mL_nil (m := repM s m 4 m.bal []) rfl rfl rfl rfl) ?_
  exact RetG_3 (.inl rfl) rfl (ResV.agg rfl rfl) (ResV.tmp rfl) (ResV.tmp rfl) GivesTo.g (⟨mP0, rfl, rfl⟩)
theorem acOn_spec {L : List HP} {b : Nat} {s : AccD} (m : MsgD) (p : MsgP) (hx : MsgOk m) (hk : MsgK L m p) (hc : cMsg m ≤ 140737488355328) : Fn Tryz.prog 10 #[.pointer (some ⟨b, 0, none⟩), .agg (List.toArray (msgC m p))] (ac b s :: L) (fun v L' => ∃ q, v = .tuple #[.agg (List.toArray (msgC (repA s m) q)), .string (recA s m), .bool (decide (mineA s m))] ∧ L' = mL (repA s m) q (ac b (stA s m) :: L)) := by
  by_cases hm : mineA s m
  · by_cases hn : nackA s m
    · exact acOn_nack m p hx hk hc hm hn
    · by_cases h1 : m.kind = 1
      · exact acOn_prep m p hx hk hc hm hn h1
      · exact acOn_acc m p hx hk hc hm hn h1
  · exact acOn_bad m p hx hk hc hm
end Go.SL
set_option linter.unusedVariables false
set_option linter.unusedSimpArgs false
namespace Go.SL
open Go Go.Proofs
theorem rightBallot_spec (L : List HP) (a : Int × Int) : Fn Tryz.prog 84 #[pairV a] L (fun v L' => v = .bool (decide (rBal a)) ∧ L' = L) := by
  refine Fn_enter Tryz.func84 rfl rfl rfl rfl ?_
  refine T_region ?_
  refine TL_box rfl rfl rfl ?_
  intro b1
  refine TL_y rfl rfl (Y_assign rfl) ?_
  refine TL_nil ?_
  refine T_region ?_
  refine TL_y rfl rfl (Y_field_addr rfl) ?_
  refine TL_y rfl rfl (Y_load rfl rfl) ?_
  refine TL_call rfl rfl (refTo_spec _ _ _) ?_
  rintro _ _ ⟨rfl, rfl⟩
  refine TL_both 5 10 (rBal a) ?_ ?_
  · refine TL_y rfl rfl (Y_move rfl) ?_
    refine TL_splitd 6 rfl (fun h6 => ?_) (fun h6 => ?_)
    · refine TL_grun rfl rfl ?_
      refine TL_y rfl rfl (Y_field_addr rfl) ?_
      refine TL_grun rfl rfl ?_
      refine TL_y rfl rfl (Y_load rfl rfl) ?_
      refine TL_grun rfl rfl ?_
      refine TL_call rfl rfl (refTo_spec _ _ _) ?_
      rintro _ _ ⟨rfl, rfl⟩
      refine TL_y rfl rfl (Y_pick_t rfl rfl) ?_
      refine TL_chain_end rfl ?_ (by repeat (first | exact sub_refl | refine sub_ext rfl ?_)) GivesTo.g
      exact congrArg Value.bool (decide_eq_decide.2 (by simp [rBal, *]))
    · refine TL_gskip rfl rfl rfl rfl ?_
      refine TL_gskip rfl rfl rfl rfl ?_
      refine TL_gskip rfl rfl rfl rfl ?_
      refine TL_y rfl rfl (Y_pick_f rfl rfl) ?_
      refine TL_chain_end rfl ?_ (by repeat (first | exact sub_refl | refine sub_ext rfl ?_)) GivesTo.g
      exact congrArg Value.bool (decide_eq_false (by simp [rBal, *])).symm
  refine TL_y rfl rfl (Y_assign rfl) ?_
  refine TL_nil ?_
  refine T_ret ?_
  exact RetG_1 (.inl rfl) rfl (ResV.tmp rfl) GivesTo.g (⟨rfl, rfl⟩)
theorem rightEvent_spec {L : List HP} {A : Option Addr} {c : Nat} (e : EventD) (hx : eventOk e) (hk : SlK L (intR .i64) A c e.deps) : Fn Tryz.prog 86 #[.agg (List.toArray (eventC e (A, c)))] L (fun v L' => v = .bool (decide (rEvent e)) ∧ L' = L) := by
  refine Fn_enter Tryz.func86 rfl rfl rfl rfl ?_
  refine T_gives hk.lay ?_
  refine T_region ?_
  refine TL_box rfl rfl rfl ?_
  intro b1
  refine TL_y rfl rfl (Y_assign rfl) ?_
  refine TL_nil ?_
  refine T_region ?_
  refine TL_y rfl rfl (Y_field_addr rfl) ?_
  refine TL_y rfl rfl (Y_field_addr rfl) ?_
  refine TL_y rfl rfl (Y_load rfl rfl) ?_
  refine TL_call rfl rfl (refTo_spec _ _ _) ?_
  rintro _ _ ⟨rfl, rfl⟩
  refine TL_both 31 37 (rEvent e) ?_ ?_
  · refine TL_y rfl rfl (Y_move rfl) ?_
    refine TL_splitd 7 rfl (fun h7 => ?_) (fun h7 => ?_)
    · refine TL_grun rfl rfl ?_
      refine TL_y rfl rfl (Y_field_addr rfl) ?_
      refine TL_grun rfl rfl ?_
      refine TL_y rfl rfl (Y_field_addr rfl) ?_
      refine TL_grun rfl rfl ?_
      refine TL_y rfl rfl (Y_load rfl rfl) ?_
      refine TL_grun rfl rfl ?_
      refine TL_call rfl rfl (refTo_spec _ _ _) ?_
      rintro _ _ ⟨rfl, rfl⟩
      refine TL_y rfl rfl (Y_pick_t rfl rfl) ?_
      refine TL_y rfl rfl (Y_move rfl) ?_
      refine TL_splitd 13 rfl (fun h13 => ?_) (fun h13 => ?_)
      · refine TL_grun rfl rfl ?_
        refine TL_y rfl rfl (Y_field_addr rfl) ?_
        refine TL_grun rfl rfl ?_
        refine TL_y rfl rfl (Y_load rfl rfl) ?_
        refine TL_grun rfl rfl ?_
        refine TL_call rfl rfl (refVector_spec slk) ?_
        rintro _ _ ⟨rfl, rfl⟩
        refine TL_y rfl rfl (Y_pick_t rfl rfl) ?_
        refine TL_y rfl rfl (Y_move rfl) ?_
        refine TL_splitd 18 rfl (fun h18 => ?_) (fun h18 => ?_)
        · refine TL_grun rfl rfl ?_
          refine TL_y rfl rfl (Y_field_addr rfl) ?_
          refine TL_grun rfl rfl ?_
          refine TL_y rfl rfl (Y_load rfl rfl) ?_
          refine TL_grun rfl rfl ?_
          refine TL_call rfl rfl (refName_spec _ e.cart hx.2.2.2.1) ?_
          rintro _ _ ⟨rfl, rfl⟩
          refine TL_y rfl rfl (Y_pick_t rfl rfl) ?_
          refine TL_y rfl rfl (Y_move rfl) ?_
          refine TL_splitd 23 rfl (fun h23 => ?_) (fun h23 => ?_)
          · refine TL_grun rfl rfl ?_
            refine TL_y rfl rfl (Y_field_addr rfl) ?_
            refine TL_grun rfl rfl ?_
            refine TL_y rfl rfl (Y_load rfl rfl) ?_
            refine TL_grun rfl rfl ?_
            refine TL_call rfl rfl (refTo_spec _ _ _) ?_
            rintro _ _ ⟨rfl, rfl⟩
            refine TL_y rfl rfl (Y_pick_t rfl rfl) ?_
            refine TL_y rfl rfl (Y_move rfl) ?_
            refine TL_splitd 28 rfl (fun h28 => ?_) (fun h28 => ?_)
            · refine TL_grun rfl rfl ?_
              refine TL_y rfl rfl (Y_field_addr rfl) ?_
              refine TL_grun rfl rfl ?_
              refine TL_y rfl rfl (Y_load rfl rfl) ?_
              refine TL_grun rfl rfl ?_
              refine TL_call rfl rfl (refName_spec _ e.sku hx.2.2.2.2.2.1) ?_
              rintro _ _ ⟨rfl, rfl⟩
              refine TL_y rfl rfl (Y_pick_t rfl rfl) ?_
              refine TL_y rfl rfl (Y_move rfl) ?_
              refine TL_splitd 33 rfl (fun h33 => ?_) (fun h33 => ?_)
              · refine TL_grun rfl rfl ?_
                refine TL_y rfl rfl (Y_field_addr rfl) ?_
                refine TL_grun rfl rfl ?_
                refine TL_y rfl rfl (Y_load rfl rfl) ?_
                refine TL_grun rfl rfl ?_
                refine TL_call rfl rfl (refTo_spec _ _ _) ?_
                rintro _ _ ⟨rfl, rfl⟩
                refine TL_y rfl rfl (Y_pick_t rfl rfl) ?_
                refine TL_chain_end rfl ?_ (by repeat (first | exact sub_refl | refine sub_ext rfl ?_)) GivesTo.g
                exact congrArg Value.bool (decide_eq_decide.2 (by simp [rEvent, *]))
              · refine TL_gskip rfl rfl rfl rfl ?_
                refine TL_gskip rfl rfl rfl rfl ?_
                refine TL_gskip rfl rfl rfl rfl ?_
                refine TL_y rfl rfl (Y_pick_f rfl rfl) ?_
                refine TL_chain_end rfl ?_ (by repeat (first | exact sub_refl | refine sub_ext rfl ?_)) GivesTo.g
                exact congrArg Value.bool (decide_eq_false (by simp [rEvent, *])).symm
            · refine TL_gskip rfl rfl rfl rfl ?_
              refine TL_gskip rfl rfl rfl rfl ?_
              refine TL_gskip rfl rfl rfl rfl ?_
              refine TL_y rfl rfl (Y_pick_f rfl rfl) ?_
              refine TL_y rfl rfl (Y_move rfl) ?_
              refine TL_gskip rfl rfl rfl rfl ?_
              refine TL_gskip rfl rfl rfl rfl ?_
              refine TL_gskip rfl rfl rfl rfl ?_
              refine TL_y rfl rfl (Y_pick_f rfl rfl) ?_
              refine TL_chain_end rfl ?_ (by repeat (first | exact sub_refl | refine sub_ext rfl ?_)) GivesTo.g
              exact congrArg Value.bool (decide_eq_false (by simp [rEvent, *])).symm
          · refine TL_gskip rfl rfl rfl rfl ?_
            refine TL_gskip rfl rfl rfl rfl ?_
            refine TL_gskip rfl rfl rfl rfl ?_
            refine TL_y rfl rfl (Y_pick_f rfl rfl) ?_
            refine TL_y rfl rfl (Y_move rfl) ?_
            refine TL_gskip rfl rfl rfl rfl ?_
            refine TL_gskip rfl rfl rfl rfl ?_
            refine TL_gskip rfl rfl rfl rfl ?_
            refine TL_y rfl rfl (Y_pick_f rfl rfl) ?_
            refine TL_y rfl rfl (Y_move rfl) ?_
            refine TL_gskip rfl rfl rfl rfl ?_
            refine TL_gskip rfl rfl rfl rfl ?_
            refine TL_gskip rfl rfl rfl rfl ?_
            refine TL_y rfl rfl (Y_pick_f rfl rfl) ?_
            refine TL_chain_end rfl ?_ (by repeat (first | exact sub_refl | refine sub_ext rfl ?_)) GivesTo.g
            exact congrArg Value.bool (decide_eq_false (by simp [rEvent, *])).symm
        · refine TL_gskip rfl rfl rfl rfl ?_
          refine TL_gskip rfl rfl rfl rfl ?_
          refine TL_gskip rfl rfl rfl rfl ?_
          refine TL_y rfl rfl (Y_pick_f rfl rfl) ?_
          refine TL_y rfl rfl (Y_move rfl) ?_
          refine TL_gskip rfl rfl rfl rfl ?_
          refine TL_gskip rfl rfl rfl rfl ?_
          refine TL_gskip rfl rfl rfl rfl ?_
          refine TL_y rfl rfl (Y_pick_f rfl rfl) ?_
          refine TL_y rfl rfl (Y_move rfl) ?_
          refine TL_gskip rfl rfl rfl rfl ?_
          refine TL_gskip rfl rfl rfl rfl ?_
          refine TL_gskip rfl rfl rfl rfl ?_
          refine TL_y rfl rfl (Y_pick_f rfl rfl) ?_
          refine TL_y rfl rfl (Y_move rfl) ?_
          refine TL_gskip rfl rfl rfl rfl ?_
          refine TL_gskip rfl rfl rfl rfl ?_
          refine TL_gskip rfl rfl rfl rfl ?_
          refine TL_y rfl rfl (Y_pick_f rfl rfl) ?_
          refine TL_chain_end rfl ?_ (by repeat (first | exact sub_refl | refine sub_ext rfl ?_)) GivesTo.g
          exact congrArg Value.bool (decide_eq_false (by simp [rEvent, *])).symm
      · refine TL_gskip rfl rfl rfl rfl ?_
        refine TL_gskip rfl rfl rfl rfl ?_
        refine TL_gskip rfl rfl rfl rfl ?_
        refine TL_y rfl rfl (Y_pick_f rfl rfl) ?_
        refine TL_y rfl rfl (Y_move rfl) ?_
        refine TL_gskip rfl rfl rfl rfl ?_
        refine TL_gskip rfl rfl rfl rfl ?_
        refine TL_gskip rfl rfl rfl rfl ?_
        refine TL_y rfl rfl (Y_pick_f rfl rfl) ?_
        refine TL_y rfl rfl (Y_move rfl) ?_
        refine TL_gskip rfl rfl rfl rfl ?_
        refine TL_gskip rfl rfl rfl rfl ?_
        refine TL_gskip rfl rfl rfl rfl ?_
        refine TL_y rfl rfl (Y_pick_f rfl rfl) ?_
        refine TL_y rfl rfl (Y_move rfl) ?_
        refine TL_gskip rfl rfl rfl rfl ?_
        refine TL_gskip rfl rfl rfl rfl ?_
        refine TL_gskip rfl rfl rfl rfl ?_
        refine TL_y rfl rfl (Y_pick_f rfl rfl) ?_
        refine TL_y rfl rfl (Y_move rfl) ?_
        refine TL_gskip rfl rfl rfl rfl ?_
        refine TL_gskip rfl rfl rfl rfl ?_
        refine TL_gskip rfl rfl rfl rfl ?_
        refine TL_y rfl rfl (Y_pick_f rfl rfl) ?_
        refine TL_chain_end rfl ?_ (by repeat (first | exact sub_refl | refine sub_ext rfl ?_)) GivesTo.g
        exact congrArg Value.bool (decide_eq_false (by simp [rEvent, *])).symm
    · refine TL_gskip rfl rfl rfl rfl ?_
      refine TL_gskip rfl rfl rfl rfl ?_
      refine TL_gskip rfl rfl rfl rfl ?_
      refine TL_gskip rfl rfl rfl rfl ?_
      refine TL_y rfl rfl (Y_pick_f rfl rfl) ?_
      refine TL_y rfl rfl (Y_move rfl) ?_
      refine TL_gskip rfl rfl rfl rfl ?_
      refine TL_gskip rfl rfl rfl rfl ?_
      refine TL_gskip rfl rfl rfl rfl ?_
      refine TL_y rfl rfl (Y_pick_f rfl rfl) ?_
      refine TL_y rfl rfl (Y_move rfl) ?_
      refine TL_gskip rfl rfl rfl rfl ?_
      refine TL_gskip rfl rfl rfl rfl ?_
      refine TL_gskip rfl rfl rfl rfl ?_
      refine TL_y rfl rfl (Y_pick_f rfl rfl) ?_
      refine TL_y rfl rfl (Y_move rfl) ?_
      refine TL_gskip rfl rfl rfl rfl ?_
      refine TL_gskip rfl rfl rfl rfl ?_
      refine TL_gskip rfl rfl rfl rfl ?_
      refine TL_y rfl rfl (Y_pick_f rfl rfl) ?_
      refine TL_y rfl rfl (Y_move rfl) ?_
      refine TL_gskip rfl rfl rfl rfl ?_
      refine TL_gskip rfl rfl rfl rfl ?_
      refine TL_gskip rfl rfl rfl rfl ?_
      refine TL_y rfl rfl (Y_pick_f rfl rfl) ?_
      refine TL_y rfl rfl (Y_move rfl) ?_
      refine TL_gskip rfl rfl rfl rfl ?_
      refine TL_gskip rfl rfl rfl rfl ?_
      refine TL_gskip rfl rfl rfl rfl ?_
      refine TL_y rfl rfl (Y_pick_f rfl rfl) ?_
      refine TL_chain_end rfl ?_ (by repeat (first | exact sub_refl | refine sub_ext rfl ?_)) GivesTo.g
      exact congrArg Value.bool (decide_eq_false (by simp [rEvent, *])).symm
  refine TL_y rfl rfl (Y_assign rfl) ?_
  refine TL_nil ?_
  refine T_ret ?_
  exact RetG_1 (.inl rfl) rfl (ResV.tmp rfl) GivesTo.g (⟨rfl, rfl⟩)
def HeadM (m : MsgD) : Prop := rNum 255 m.kind ∧ rNum 6 m.frm ∧ rNum 6 m.to_ ∧ rBal m.bal ∧ rNum 2147483647 m.slot ∧ rEntry m.en ∧ m.voted.length ≤ 4096 ∧ rVec m.seen ∧ m.events.length ≤ 4096 ∧ rNum 4611686018427387904 m.time
instance (m : MsgD) : Decidable (HeadM m) := by unfold HeadM; exact inferInstance
theorem head_msg {m : MsgD} : rMsg m ↔ HeadM m ∧ (∀ v ∈ m.voted, rVoted v) ∧ ∀ v ∈ m.events, rEvent v := by
  unfold rMsg HeadM
  constructor
  · rintro ⟨h1, h2, h3, h4, h5, h6, ⟨h7, h8⟩, h9, ⟨ha, hb⟩, hc⟩
    exact ⟨⟨h1, h2, h3, h4, h5, h6, h7, h9, ha, hc⟩, h8, hb⟩
  · rintro ⟨⟨h1, h2, h3, h4, h5, h6, h7, h9, ha, hc⟩, h8, hb⟩
    exact ⟨h1, h2, h3, h4, h5, h6, ⟨h7, h8⟩, h9, ⟨ha, hb⟩, hc⟩
theorem rightMsg_spec {L : List HP} (m : MsgD) (p : MsgP) (hx : MsgOk m) (hk : MsgK L m p) : Fn Tryz.prog 57 #[msgV m p] L (fun v L' => v = .bool (decide (rMsg m)) ∧ L' = L) := by
  refine Fn_enter Tryz.func57 rfl rfl rfl rfl ?_
  refine T_gives (MsgK.lay hk) ?_
  refine SlK.lens (slk (A := p.voted.1) (c := p.voted.2)) fun hlv => ?_
  refine SlK.lens (slk (A := p.events.1) (c := p.events.2)) fun hle => ?_
  simp only [maxEl] at hlv hle
  refine T_region ?_
  refine TL_box rfl rfl rfl ?_
  intro b1
  refine TL_y rfl rfl (Y_assign rfl) ?_
  refine TL_nil ?_
  refine T_seq ?_
  refine T_region ?_
  refine TL_y rfl rfl (Y_field_addr rfl) ?_
  refine TL_y rfl rfl (Y_load rfl rfl) ?_
  refine TL_call rfl rfl (refTo_spec _ _ _) ?_
  rintro _ _ ⟨rfl, rfl⟩
  refine TL_y rfl rfl (Y_not_d rfl) ?_
  refine TL_both 54 62 (¬ HeadM m) ?_ ?_
  · refine TL_y rfl rfl (Y_move rfl) ?_
    refine TL_splitd 9 rfl (fun h9 => ?_) (fun h9 => ?_)
    · refine TL_gskip rfl rfl rfl rfl ?_
      refine TL_gskip rfl rfl rfl rfl ?_
      refine TL_gskip rfl rfl rfl rfl ?_
      refine TL_gskip rfl rfl rfl rfl ?_
      refine TL_y rfl rfl (Y_pick_t rfl rfl) ?_
      refine TL_y rfl rfl (Y_move rfl) ?_
      refine TL_gskip rfl rfl rfl rfl ?_
      refine TL_gskip rfl rfl rfl rfl ?_
      refine TL_gskip rfl rfl rfl rfl ?_
      refine TL_gskip rfl rfl rfl rfl ?_
      refine TL_y rfl rfl (Y_pick_t rfl rfl) ?_
      refine TL_y rfl rfl (Y_move rfl) ?_
      refine TL_gskip rfl rfl rfl rfl ?_
      refine TL_gskip rfl rfl rfl rfl ?_
      refine TL_gskip rfl rfl rfl rfl ?_
      refine TL_gskip rfl rfl rfl rfl ?_
      refine TL_y rfl rfl (Y_pick_t rfl rfl) ?_
      refine TL_y rfl rfl (Y_move rfl) ?_
      refine TL_gskip rfl rfl rfl rfl ?_
      refine TL_gskip rfl rfl rfl rfl ?_
      refine TL_gskip rfl rfl rfl rfl ?_
      refine TL_gskip rfl rfl rfl rfl ?_
      refine TL_y rfl rfl (Y_pick_t rfl rfl) ?_
      refine TL_y rfl rfl (Y_move rfl) ?_
      refine TL_gskip rfl rfl rfl rfl ?_
      refine TL_gskip rfl rfl rfl rfl ?_
      refine TL_gskip rfl rfl rfl rfl ?_
      refine TL_gskip rfl rfl rfl rfl ?_
      refine TL_y rfl rfl (Y_pick_t rfl rfl) ?_
      refine TL_y rfl rfl (Y_move rfl) ?_
      refine TL_gskip rfl rfl rfl rfl ?_
      refine TL_gskip rfl rfl rfl rfl ?_
      refine TL_gskip rfl rfl rfl rfl ?_
      refine TL_gskip rfl rfl rfl rfl ?_
      refine TL_y rfl rfl (Y_pick_t rfl rfl) ?_
      refine TL_y rfl rfl (Y_move rfl) ?_
      refine TL_gskip rfl rfl rfl rfl ?_
      refine TL_gskip rfl rfl rfl rfl ?_
      refine TL_gskip rfl rfl rfl rfl ?_
      refine TL_gskip rfl rfl rfl rfl ?_
      refine TL_y rfl rfl (Y_pick_t rfl rfl) ?_
      refine TL_y rfl rfl (Y_move rfl) ?_
      refine TL_gskip rfl rfl rfl rfl ?_
      refine TL_gskip rfl rfl rfl rfl ?_
      refine TL_gskip rfl rfl rfl rfl ?_
      refine TL_gskip rfl rfl rfl rfl ?_
      refine TL_y rfl rfl (Y_pick_t rfl rfl) ?_
      refine TL_y rfl rfl (Y_move rfl) ?_
      refine TL_gskip rfl rfl rfl rfl ?_
      refine TL_gskip rfl rfl rfl rfl ?_
      refine TL_gskip rfl rfl rfl rfl ?_
      refine TL_gskip rfl rfl rfl rfl ?_
      refine TL_y rfl rfl (Y_pick_t rfl rfl) ?_
      refine TL_chain_end rfl ?_ (by repeat (first | exact sub_refl | refine sub_ext rfl ?_)) GivesTo.g
      exact congrArg Value.bool (decide_eq_true (by unfold HeadM; first | (simp [*]; done) | (simp [*]; omega))).symm
    · refine TL_grun rfl rfl ?_
      refine TL_y rfl rfl (Y_field_addr rfl) ?_
      refine TL_grun rfl rfl ?_
      refine TL_y rfl rfl (Y_load rfl rfl) ?_
      refine TL_grun rfl rfl ?_
      refine TL_call rfl rfl (refTo_spec _ _ _) ?_
      rintro _ _ ⟨rfl, rfl⟩
      refine TL_grun rfl rfl ?_
      refine TL_y rfl rfl (Y_not_d rfl) ?_
      refine TL_y rfl rfl (Y_pick_f rfl rfl) ?_
      refine TL_y rfl rfl (Y_move rfl) ?_
      refine TL_splitd 15 rfl (fun h15 => ?_) (fun h15 => ?_)
      · refine TL_gskip rfl rfl rfl rfl ?_
        refine TL_gskip rfl rfl rfl rfl ?_
        refine TL_gskip rfl rfl rfl rfl ?_
        refine TL_gskip rfl rfl rfl rfl ?_
        refine TL_y rfl rfl (Y_pick_t rfl rfl) ?_
        refine TL_y rfl rfl (Y_move rfl) ?_
        refine TL_gskip rfl rfl rfl rfl ?_
        refine TL_gskip rfl rfl rfl rfl ?_
        refine TL_gskip rfl rfl rfl rfl ?_
        refine TL_gskip rfl rfl rfl rfl ?_
        refine TL_y rfl rfl (Y_pick_t rfl rfl) ?_
        refine TL_y rfl rfl (Y_move rfl) ?_
        refine TL_gskip rfl rfl rfl rfl ?_
        refine TL_gskip rfl rfl rfl rfl ?_
        refine TL_gskip rfl rfl rfl rfl ?_
        refine TL_gskip rfl rfl rfl rfl ?_
        refine TL_y rfl rfl (Y_pick_t rfl rfl) ?_
        refine TL_y rfl rfl (Y_move rfl) ?_
        refine TL_gskip rfl rfl rfl rfl ?_
        refine TL_gskip rfl rfl rfl rfl ?_
        refine TL_gskip rfl rfl rfl rfl ?_
        refine TL_gskip rfl rfl rfl rfl ?_
        refine TL_y rfl rfl (Y_pick_t rfl rfl) ?_
        refine TL_y rfl rfl (Y_move rfl) ?_
        refine TL_gskip rfl rfl rfl rfl ?_
        refine TL_gskip rfl rfl rfl rfl ?_
        refine TL_gskip rfl rfl rfl rfl ?_
        refine TL_gskip rfl rfl rfl rfl ?_
        refine TL_y rfl rfl (Y_pick_t rfl rfl) ?_
        refine TL_y rfl rfl (Y_move rfl) ?_
        refine TL_gskip rfl rfl rfl rfl ?_
        refine TL_gskip rfl rfl rfl rfl ?_
        refine TL_gskip rfl rfl rfl rfl ?_
        refine TL_gskip rfl rfl rfl rfl ?_
        refine TL_y rfl rfl (Y_pick_t rfl rfl) ?_
        refine TL_y rfl rfl (Y_move rfl) ?_
        refine TL_gskip rfl rfl rfl rfl ?_
        refine TL_gskip rfl rfl rfl rfl ?_
        refine TL_gskip rfl rfl rfl rfl ?_
        refine TL_gskip rfl rfl rfl rfl ?_
        refine TL_y rfl rfl (Y_pick_t rfl rfl) ?_
        refine TL_y rfl rfl (Y_move rfl) ?_
        refine TL_gskip rfl rfl rfl rfl ?_
        refine TL_gskip rfl rfl rfl rfl ?_
        refine TL_gskip rfl rfl rfl rfl ?_
        refine TL_gskip rfl rfl rfl rfl ?_
        refine TL_y rfl rfl (Y_pick_t rfl rfl) ?_
        refine TL_chain_end rfl ?_ (by repeat (first | exact sub_refl | refine sub_ext rfl ?_)) GivesTo.g
        exact congrArg Value.bool (decide_eq_true (by unfold HeadM; first | (simp [*]; done) | (simp [*]; omega))).symm
      · refine TL_grun rfl rfl ?_
        refine TL_y rfl rfl (Y_field_addr rfl) ?_
        refine TL_grun rfl rfl ?_
        refine TL_y rfl rfl (Y_load rfl rfl) ?_
        refine TL_grun rfl rfl ?_
        refine TL_call rfl rfl (refTo_spec _ _ _) ?_
        rintro _ _ ⟨rfl, rfl⟩
        refine TL_grun rfl rfl ?_
        refine TL_y rfl rfl (Y_not_d rfl) ?_
        refine TL_y rfl rfl (Y_pick_f rfl rfl) ?_
        refine TL_y rfl rfl (Y_move rfl) ?_
        refine TL_splitd 21 rfl (fun h21 => ?_) (fun h21 => ?_)
        · refine TL_gskip rfl rfl rfl rfl ?_
          refine TL_gskip rfl rfl rfl rfl ?_
          refine TL_gskip rfl rfl rfl rfl ?_
          refine TL_gskip rfl rfl rfl rfl ?_
          refine TL_y rfl rfl (Y_pick_t rfl rfl) ?_
          refine TL_y rfl rfl (Y_move rfl) ?_
          refine TL_gskip rfl rfl rfl rfl ?_
          refine TL_gskip rfl rfl rfl rfl ?_
          refine TL_gskip rfl rfl rfl rfl ?_
          refine TL_gskip rfl rfl rfl rfl ?_
          refine TL_y rfl rfl (Y_pick_t rfl rfl) ?_
          refine TL_y rfl rfl (Y_move rfl) ?_
          refine TL_gskip rfl rfl rfl rfl ?_
          refine TL_gskip rfl rfl rfl rfl ?_
          refine TL_gskip rfl rfl rfl rfl ?_
          refine TL_gskip rfl rfl rfl rfl ?_
          refine TL_y rfl rfl (Y_pick_t rfl rfl) ?_
          refine TL_y rfl rfl (Y_move rfl) ?_
          refine TL_gskip rfl rfl rfl rfl ?_
          refine TL_gskip rfl rfl rfl rfl ?_
          refine TL_gskip rfl rfl rfl rfl ?_
          refine TL_gskip rfl rfl rfl rfl ?_
          refine TL_y rfl rfl (Y_pick_t rfl rfl) ?_
          refine TL_y rfl rfl (Y_move rfl) ?_
          refine TL_gskip rfl rfl rfl rfl ?_
          refine TL_gskip rfl rfl rfl rfl ?_
          refine TL_gskip rfl rfl rfl rfl ?_
          refine TL_gskip rfl rfl rfl rfl ?_
          refine TL_y rfl rfl (Y_pick_t rfl rfl) ?_
          refine TL_y rfl rfl (Y_move rfl) ?_
          refine TL_gskip rfl rfl rfl rfl ?_
          refine TL_gskip rfl rfl rfl rfl ?_
          refine TL_gskip rfl rfl rfl rfl ?_
          refine TL_gskip rfl rfl rfl rfl ?_
          refine TL_y rfl rfl (Y_pick_t rfl rfl) ?_
          refine TL_y rfl rfl (Y_move rfl) ?_
          refine TL_gskip rfl rfl rfl rfl ?_
          refine TL_gskip rfl rfl rfl rfl ?_
          refine TL_gskip rfl rfl rfl rfl ?_
          refine TL_gskip rfl rfl rfl rfl ?_
          refine TL_y rfl rfl (Y_pick_t rfl rfl) ?_
          refine TL_chain_end rfl ?_ (by repeat (first | exact sub_refl | refine sub_ext rfl ?_)) GivesTo.g
          exact congrArg Value.bool (decide_eq_true (by unfold HeadM; first | (simp [*]; done) | (simp [*]; omega))).symm
        · refine TL_grun rfl rfl ?_
          refine TL_y rfl rfl (Y_field_addr rfl) ?_
          refine TL_grun rfl rfl ?_
          refine TL_y rfl rfl (Y_load_agg rfl rfl) ?_
          refine TL_grun rfl rfl ?_
          refine TL_call rfl rfl (rightBallot_spec _ m.bal) ?_
          rintro _ _ ⟨rfl, rfl⟩
          refine TL_grun rfl rfl ?_
          refine TL_y rfl rfl (Y_not_d rfl) ?_
          refine TL_y rfl rfl (Y_pick_f rfl rfl) ?_
          refine TL_y rfl rfl (Y_move rfl) ?_
          refine TL_splitd 27 rfl (fun h27 => ?_) (fun h27 => ?_)
          · refine TL_gskip rfl rfl rfl rfl ?_
            refine TL_gskip rfl rfl rfl rfl ?_
            refine TL_gskip rfl rfl rfl rfl ?_
            refine TL_gskip rfl rfl rfl rfl ?_
            refine TL_y rfl rfl (Y_pick_t rfl rfl) ?_
            refine TL_y rfl rfl (Y_move rfl) ?_
            refine TL_gskip rfl rfl rfl rfl ?_
            refine TL_gskip rfl rfl rfl rfl ?_
            refine TL_gskip rfl rfl rfl rfl ?_
            refine TL_gskip rfl rfl rfl rfl ?_
            refine TL_y rfl rfl (Y_pick_t rfl rfl) ?_
            refine TL_y rfl rfl (Y_move rfl) ?_
            refine TL_gskip rfl rfl rfl rfl ?_
            refine TL_gskip rfl rfl rfl rfl ?_
            refine TL_gskip rfl rfl rfl rfl ?_
            refine TL_gskip rfl rfl rfl rfl ?_
            refine TL_y rfl rfl (Y_pick_t rfl rfl) ?_
            refine TL_y rfl rfl (Y_move rfl) ?_
            refine TL_gskip rfl rfl rfl rfl ?_
            refine TL_gskip rfl rfl rfl rfl ?_
            refine TL_gskip rfl rfl rfl rfl ?_
            refine TL_gskip rfl rfl rfl rfl ?_
            refine TL_y rfl rfl (Y_pick_t rfl rfl) ?_
            refine TL_y rfl rfl (Y_move rfl) ?_
            refine TL_gskip rfl rfl rfl rfl ?_
            refine TL_gskip rfl rfl rfl rfl ?_
            refine TL_gskip rfl rfl rfl rfl ?_
            refine TL_gskip rfl rfl rfl rfl ?_
            refine TL_y rfl rfl (Y_pick_t rfl rfl) ?_
            refine TL_y rfl rfl (Y_move rfl) ?_
            refine TL_gskip rfl rfl rfl rfl ?_
            refine TL_gskip rfl rfl rfl rfl ?_
            refine TL_gskip rfl rfl rfl rfl ?_
            refine TL_gskip rfl rfl rfl rfl ?_
            refine TL_y rfl rfl (Y_pick_t rfl rfl) ?_
            refine TL_chain_end rfl ?_ (by repeat (first | exact sub_refl | refine sub_ext rfl ?_)) GivesTo.g
            exact congrArg Value.bool (decide_eq_true (by unfold HeadM; first | (simp [*]; done) | (simp [*]; omega))).symm
          · refine TL_grun rfl rfl ?_
            refine TL_y rfl rfl (Y_field_addr rfl) ?_
            refine TL_grun rfl rfl ?_
            refine TL_y rfl rfl (Y_load rfl rfl) ?_
            refine TL_grun rfl rfl ?_
            refine TL_call rfl rfl (refTo_spec _ _ _) ?_
            rintro _ _ ⟨rfl, rfl⟩
            refine TL_grun rfl rfl ?_
            refine TL_y rfl rfl (Y_not_d rfl) ?_
            refine TL_y rfl rfl (Y_pick_f rfl rfl) ?_
            refine TL_y rfl rfl (Y_move rfl) ?_
            refine TL_splitd 33 rfl (fun h33 => ?_) (fun h33 => ?_)
            · refine TL_gskip rfl rfl rfl rfl ?_
              refine TL_gskip rfl rfl rfl rfl ?_
              refine TL_gskip rfl rfl rfl rfl ?_
              refine TL_gskip rfl rfl rfl rfl ?_
              refine TL_y rfl rfl (Y_pick_t rfl rfl) ?_
              refine TL_y rfl rfl (Y_move rfl) ?_
              refine TL_gskip rfl rfl rfl rfl ?_
              refine TL_gskip rfl rfl rfl rfl ?_
              refine TL_gskip rfl rfl rfl rfl ?_
              refine TL_gskip rfl rfl rfl rfl ?_
              refine TL_y rfl rfl (Y_pick_t rfl rfl) ?_
              refine TL_y rfl rfl (Y_move rfl) ?_
              refine TL_gskip rfl rfl rfl rfl ?_
              refine TL_gskip rfl rfl rfl rfl ?_
              refine TL_gskip rfl rfl rfl rfl ?_
              refine TL_gskip rfl rfl rfl rfl ?_
              refine TL_y rfl rfl (Y_pick_t rfl rfl) ?_
              refine TL_y rfl rfl (Y_move rfl) ?_
              refine TL_gskip rfl rfl rfl rfl ?_
              refine TL_gskip rfl rfl rfl rfl ?_
              refine TL_gskip rfl rfl rfl rfl ?_
              refine TL_gskip rfl rfl rfl rfl ?_
              refine TL_y rfl rfl (Y_pick_t rfl rfl) ?_
              refine TL_y rfl rfl (Y_move rfl) ?_
              refine TL_gskip rfl rfl rfl rfl ?_
              refine TL_gskip rfl rfl rfl rfl ?_
              refine TL_gskip rfl rfl rfl rfl ?_
              refine TL_gskip rfl rfl rfl rfl ?_
              refine TL_y rfl rfl (Y_pick_t rfl rfl) ?_
              refine TL_chain_end rfl ?_ (by repeat (first | exact sub_refl | refine sub_ext rfl ?_)) GivesTo.g
              exact congrArg Value.bool (decide_eq_true (by unfold HeadM; first | (simp [*]; done) | (simp [*]; omega))).symm
            · refine TL_grun rfl rfl ?_
              refine TL_y rfl rfl (Y_field_addr rfl) ?_
              refine TL_grun rfl rfl ?_
              refine TL_y rfl rfl (Y_load_agg rfl rfl) ?_
              refine TL_grun rfl rfl ?_
              refine TL_call rfl rfl (rightEntry_spec m.en hx.en slk) ?_
              rintro _ _ ⟨rfl, rfl⟩
              refine TL_grun rfl rfl ?_
              refine TL_y rfl rfl (Y_not_d rfl) ?_
              refine TL_y rfl rfl (Y_pick_f rfl rfl) ?_
              refine TL_y rfl rfl (Y_move rfl) ?_
              refine TL_splitd 39 rfl (fun h39 => ?_) (fun h39 => ?_)
              · refine TL_gskip rfl rfl rfl rfl ?_
                refine TL_gskip rfl rfl rfl rfl ?_
                refine TL_gskip rfl rfl rfl rfl ?_
                refine TL_gskip rfl rfl rfl rfl ?_
                refine TL_y rfl rfl (Y_pick_t rfl rfl) ?_
                refine TL_y rfl rfl (Y_move rfl) ?_
                refine TL_gskip rfl rfl rfl rfl ?_
                refine TL_gskip rfl rfl rfl rfl ?_
                refine TL_gskip rfl rfl rfl rfl ?_
                refine TL_gskip rfl rfl rfl rfl ?_
                refine TL_y rfl rfl (Y_pick_t rfl rfl) ?_
                refine TL_y rfl rfl (Y_move rfl) ?_
                refine TL_gskip rfl rfl rfl rfl ?_
                refine TL_gskip rfl rfl rfl rfl ?_
                refine TL_gskip rfl rfl rfl rfl ?_
                refine TL_gskip rfl rfl rfl rfl ?_
                refine TL_y rfl rfl (Y_pick_t rfl rfl) ?_
                refine TL_y rfl rfl (Y_move rfl) ?_
                refine TL_gskip rfl rfl rfl rfl ?_
                refine TL_gskip rfl rfl rfl rfl ?_
                refine TL_gskip rfl rfl rfl rfl ?_
                refine TL_gskip rfl rfl rfl rfl ?_
                refine TL_y rfl rfl (Y_pick_t rfl rfl) ?_
                refine TL_chain_end rfl ?_ (by repeat (first | exact sub_refl | refine sub_ext rfl ?_)) GivesTo.g
                exact congrArg Value.bool (decide_eq_true (by unfold HeadM; first | (simp [*]; done) | (simp [*]; omega))).symm
              · refine TL_grun rfl rfl ?_
                refine TL_y rfl rfl (Y_field_addr rfl) ?_
                refine TL_grun rfl rfl ?_
                refine TL_y rfl rfl (Y_load rfl rfl) ?_
                refine TL_grun rfl rfl ?_
                refine TL_y rfl rfl (Y_len rfl) ?_
                refine TL_grun rfl rfl ?_
                refine TL_y rfl rfl (Y_gt rfl rfl) ?_
                refine TL_y rfl rfl (Y_pick_f rfl rfl) ?_
                refine TL_y rfl rfl (Y_move rfl) ?_
                refine TL_splitd 45 rfl (fun h45 => ?_) (fun h45 => ?_)
                · refine TL_gskip rfl rfl rfl rfl ?_
                  refine TL_gskip rfl rfl rfl rfl ?_
                  refine TL_gskip rfl rfl rfl rfl ?_
                  refine TL_gskip rfl rfl rfl rfl ?_
                  refine TL_y rfl rfl (Y_pick_t rfl rfl) ?_
                  refine TL_y rfl rfl (Y_move rfl) ?_
                  refine TL_gskip rfl rfl rfl rfl ?_
                  refine TL_gskip rfl rfl rfl rfl ?_
                  refine TL_gskip rfl rfl rfl rfl ?_
                  refine TL_gskip rfl rfl rfl rfl ?_
                  refine TL_y rfl rfl (Y_pick_t rfl rfl) ?_
                  refine TL_y rfl rfl (Y_move rfl) ?_
                  refine TL_gskip rfl rfl rfl rfl ?_
                  refine TL_gskip rfl rfl rfl rfl ?_
                  refine TL_gskip rfl rfl rfl rfl ?_
                  refine TL_gskip rfl rfl rfl rfl ?_
                  refine TL_y rfl rfl (Y_pick_t rfl rfl) ?_
                  refine TL_chain_end rfl ?_ (by repeat (first | exact sub_refl | refine sub_ext rfl ?_)) GivesTo.g
                  exact congrArg Value.bool (decide_eq_true (by unfold HeadM; first | (simp [*]; done) | (simp [*]; omega))).symm
                · refine TL_grun rfl rfl ?_
                  refine TL_y rfl rfl (Y_field_addr rfl) ?_
                  refine TL_grun rfl rfl ?_
                  refine TL_y rfl rfl (Y_load rfl rfl) ?_
                  refine TL_grun rfl rfl ?_
                  refine TL_call rfl rfl (refVector_spec slk) ?_
                  rintro _ _ ⟨rfl, rfl⟩
                  refine TL_grun rfl rfl ?_
                  refine TL_y rfl rfl (Y_not_d rfl) ?_
                  refine TL_y rfl rfl (Y_pick_f rfl rfl) ?_
                  refine TL_y rfl rfl (Y_move rfl) ?_
                  refine TL_splitd 51 rfl (fun h51 => ?_) (fun h51 => ?_)
                  · refine TL_gskip rfl rfl rfl rfl ?_
                    refine TL_gskip rfl rfl rfl rfl ?_
                    refine TL_gskip rfl rfl rfl rfl ?_
                    refine TL_gskip rfl rfl rfl rfl ?_
                    refine TL_y rfl rfl (Y_pick_t rfl rfl) ?_
                    refine TL_y rfl rfl (Y_move rfl) ?_
                    refine TL_gskip rfl rfl rfl rfl ?_
                    refine TL_gskip rfl rfl rfl rfl ?_
                    refine TL_gskip rfl rfl rfl rfl ?_
                    refine TL_gskip rfl rfl rfl rfl ?_
                    refine TL_y rfl rfl (Y_pick_t rfl rfl) ?_
                    refine TL_chain_end rfl ?_ (by repeat (first | exact sub_refl | refine sub_ext rfl ?_)) GivesTo.g
                    exact congrArg Value.bool (decide_eq_true (by unfold HeadM; first | (simp [*]; done) | (simp [*]; omega))).symm
                  · refine TL_grun rfl rfl ?_
                    refine TL_y rfl rfl (Y_field_addr rfl) ?_
                    refine TL_grun rfl rfl ?_
                    refine TL_y rfl rfl (Y_load rfl rfl) ?_
                    refine TL_grun rfl rfl ?_
                    refine TL_y rfl rfl (Y_len rfl) ?_
                    refine TL_grun rfl rfl ?_
                    refine TL_y rfl rfl (Y_gt rfl rfl) ?_
                    refine TL_y rfl rfl (Y_pick_f rfl rfl) ?_
                    refine TL_y rfl rfl (Y_move rfl) ?_
                    refine TL_splitd 57 rfl (fun h57 => ?_) (fun h57 => ?_)
                    · refine TL_gskip rfl rfl rfl rfl ?_
                      refine TL_gskip rfl rfl rfl rfl ?_
                      refine TL_gskip rfl rfl rfl rfl ?_
                      refine TL_gskip rfl rfl rfl rfl ?_
                      refine TL_y rfl rfl (Y_pick_t rfl rfl) ?_
                      refine TL_chain_end rfl ?_ (by repeat (first | exact sub_refl | refine sub_ext rfl ?_)) GivesTo.g
                      exact congrArg Value.bool (decide_eq_true (by unfold HeadM; first | (simp [*]; done) | (simp [*]; omega))).symm
                    · refine TL_grun rfl rfl ?_
                      refine TL_y rfl rfl (Y_field_addr rfl) ?_
                      refine TL_grun rfl rfl ?_
                      refine TL_y rfl rfl (Y_load rfl rfl) ?_
                      refine TL_grun rfl rfl ?_
                      refine TL_call rfl rfl (refTo_spec _ _ _) ?_
                      rintro _ _ ⟨rfl, rfl⟩
                      refine TL_grun rfl rfl ?_
                      refine TL_y rfl rfl (Y_not_d rfl) ?_
                      refine TL_y rfl rfl (Y_pick_f rfl rfl) ?_
                      refine TL_chain_end rfl ?_ (by repeat (first | exact sub_refl | refine sub_ext rfl ?_)) GivesTo.g
                      exact congrArg Value.bool (decide_eq_decide.2 (not_congr ⟨fun h => ⟨Classical.not_not.1 h9, Classical.not_not.1 h15, Classical.not_not.1 h21, Classical.not_not.1 h27, Classical.not_not.1 h33, Classical.not_not.1 h39, by omega, Classical.not_not.1 h51, by omega, h⟩, fun h => h.2.2.2.2.2.2.2.2.2⟩))
  refine TL_nil ?_
  refine T_if rfl (fun h62 => ?_) (fun h62 => ?_)
  · refine T_region ?_
    refine TL_y rfl rfl (Y_assign rfl) ?_
    refine TL_nil ?_
    refine T_ret ?_
    refine thenS_ret ?_
    exact RetG_1 (.inl rfl) rfl (ResV.tmp rfl) GivesTo.g (⟨by rw [decide_eq_false]; intro h; exact h62 (head_msg.1 h).1, rfl⟩)
  · refine T_skip ?_
    refine thenS_normal ?_
    refine T_seq ?_
    refine T_region ?_
    refine TL_y rfl rfl (Y_assign rfl) ?_
    refine TL_nil ?_
    refine T_block ?_
    refine T_loopK (σ := Nat) [1] (fun i => i ≤ m.voted.length ∧ ∀ v ∈ m.voted.take i, rVoted v) (fun i kv => (3, .int .i64 (i : Int)) :: kv) (fun i => cells b1 (msgC m p) 49 :: mL m p L) (fun i => m.voted.length - i) (0) rfl (⟨Nat.zero_le _, by simp⟩) (GivesTo.g) (sub_cons rfl (sub_cons rfl (sub_nil))) ?_
    intro i hi
    refine T_seq ?_
    refine T_region ?_
    refine TL_y rfl rfl (Y_move rfl) ?_
    refine TL_y rfl rfl (Y_field_addr rfl) ?_
    refine TL_y rfl rfl (Y_load rfl rfl) ?_
    refine TL_y rfl rfl (Y_len rfl) ?_
    refine TL_y rfl rfl (Y_lt rfl rfl) ?_
    refine TL_nil ?_
    refine T_if rfl (fun h67 => ?_) (fun h67 => ?_)
    · refine T_skip ?_
      refine thenS_normal ?_
      refine T_seq ?_
      refine T_block ?_
      refine T_region ?_
      refine TL_y rfl rfl (Y_field_addr rfl) ?_
      refine TL_y rfl rfl (Y_load rfl rfl) ?_
      refine TL_y rfl rfl (Y_move rfl) ?_
      obtain ⟨u, hu⟩ : ∃ u, m.voted[i]? = some u := ⟨_, List.getElem?_eq_getElem (by omega)⟩
      refine TL_index_n rfl rfl rfl (rfl) (sln) (hu) ?_
      intro bn73 on73 hA73 hk73
      have hu73 := hu
      refine TL_y rfl rfl (Y_field_addr2 rfl) ?_
      refine TL_y rfl rfl (Y_load_nx rfl hk73 hu73 (fun _ => rfl)) ?_
      refine TL_call rfl rfl (refTo_spec _ _ _) ?_
      rintro _ _ ⟨rfl, rfl⟩
      refine TL_y rfl rfl (Y_not_d rfl) ?_
      refine TL_y rfl rfl (Y_move rfl) ?_
      refine TL_splitd 78 rfl (fun h78 => ?_) (fun h78 => ?_)
      · refine TL_gskip rfl rfl rfl rfl ?_
        refine TL_gskip rfl rfl rfl rfl ?_
        refine TL_gskip rfl rfl rfl rfl ?_
        refine TL_gskip rfl rfl rfl rfl ?_
        refine TL_gskip rfl rfl rfl rfl ?_
        refine TL_gskip rfl rfl rfl rfl ?_
        refine TL_gskip rfl rfl rfl rfl ?_
        refine TL_gskip rfl rfl rfl rfl ?_
        refine TL_y rfl rfl (Y_pick_t rfl rfl) ?_
        refine TL_y rfl rfl (Y_move rfl) ?_
        refine TL_gskip rfl rfl rfl rfl ?_
        refine TL_gskip rfl rfl rfl rfl ?_
        refine TL_gskip rfl rfl rfl rfl ?_
        refine TL_gskip rfl rfl rfl rfl ?_
        refine TL_gskip rfl rfl rfl rfl ?_
        refine TL_gskip rfl rfl rfl rfl ?_
        refine TL_gskip rfl rfl rfl rfl ?_
        refine TL_gskip rfl rfl rfl rfl ?_
        refine TL_y rfl rfl (Y_pick_t rfl rfl) ?_
        refine TL_nil ?_
        refine T_cond_true rfl ?_
        refine T_region ?_
        refine TL_y rfl rfl (Y_assign rfl) ?_
        refine TL_nil ?_
        refine T_ret ?_
        refine inB_ret ?_
        refine thenS_ret ?_
        refine thenS_ret ?_
        refine inB_ret ?_
        refine thenS_ret ?_
        exact RetG_1 (.inl rfl) rfl (ResV.tmp rfl) GivesTo.g (⟨by rw [decide_eq_false]; intro h; exact h78 ((head_msg.1 h).2.1 u (List.mem_of_getElem? hu)).1, rfl⟩)
      · refine TL_grun rfl rfl ?_
        refine TL_y rfl rfl (Y_field_addr rfl) ?_
        refine TL_grun rfl rfl ?_
        refine TL_y rfl rfl (Y_load rfl rfl) ?_
        refine TL_grun rfl rfl ?_
        refine TL_y rfl rfl (Y_move rfl) ?_
        refine TL_grun rfl rfl ?_
        refine TL_index_n rfl rfl rfl (rfl) (sln) (hu) ?_
        intro bn82 on82 hA82 hk82
        have hu82 := hu
        refine TL_grun rfl rfl ?_
        refine TL_y rfl rfl (Y_field_addr2 rfl) ?_
        refine TL_grun rfl rfl ?_
        refine TL_load_nx rfl rfl hk82 hu82 (fun _ => rfl) ?_
        intro p84 ok84
        simp only [List.cons_append, List.nil_append]
        refine TL_grun rfl rfl ?_
        refine TL_call rfl rfl (rightBallot_spec _ u.bal) ?_
        rintro _ _ ⟨rfl, rfl⟩
        refine TL_grun rfl rfl ?_
        refine TL_y rfl rfl (Y_not_d rfl) ?_
        refine TL_y rfl rfl (Y_pick_f rfl rfl) ?_
        refine TL_y rfl rfl (Y_move rfl) ?_
        refine TL_splitd 88 rfl (fun h88 => ?_) (fun h88 => ?_)
        · refine TL_gskip rfl rfl rfl rfl ?_
          refine TL_gskip rfl rfl rfl rfl ?_
          refine TL_gskip rfl rfl rfl rfl ?_
          refine TL_gskip rfl rfl rfl rfl ?_
          refine TL_gskip rfl rfl rfl rfl ?_
          refine TL_gskip rfl rfl rfl rfl ?_
          refine TL_gskip rfl rfl rfl rfl ?_
          refine TL_gskip rfl rfl rfl rfl ?_
          refine TL_y rfl rfl (Y_pick_t rfl rfl) ?_
          refine TL_nil ?_
          refine T_cond_true rfl ?_
          refine T_region ?_
          refine TL_y rfl rfl (Y_assign rfl) ?_
          refine TL_nil ?_
          refine T_ret ?_
          refine inB_ret ?_
          refine thenS_ret ?_
          refine thenS_ret ?_
          refine inB_ret ?_
          refine thenS_ret ?_
          exact RetG_1 (.inl rfl) rfl (ResV.tmp rfl) GivesTo.g (⟨by rw [decide_eq_false]; intro h; exact h88 ((head_msg.1 h).2.1 u (List.mem_of_getElem? hu)).2.1, rfl⟩)
        · refine TL_grun rfl rfl ?_
          refine TL_y rfl rfl (Y_field_addr rfl) ?_
          refine TL_grun rfl rfl ?_
          refine TL_y rfl rfl (Y_load rfl rfl) ?_
          refine TL_grun rfl rfl ?_
          refine TL_y rfl rfl (Y_move rfl) ?_
          refine TL_grun rfl rfl ?_
          refine TL_index_n rfl rfl rfl (rfl) (sln) (hu) ?_
          intro bn92 on92 hA92 hk92
          have hu92 := hu
          refine TL_grun rfl rfl ?_
          refine TL_y rfl rfl (Y_field_addr2 rfl) ?_
          refine TL_grun rfl rfl ?_
          refine TL_load_nx rfl rfl hk92 hu92 (fun _ => rfl) ?_
          intro p94 ok94
          simp only [List.cons_append, List.nil_append]
          refine TL_grun rfl rfl ?_
          refine TL_call rfl rfl (rightEntry_spec u.en ok94.2.2.2 slk) ?_
          rintro _ _ ⟨rfl, rfl⟩
          refine TL_grun rfl rfl ?_
          refine TL_y rfl rfl (Y_not_d rfl) ?_
          refine TL_y rfl rfl (Y_pick_f rfl rfl) ?_
          refine TL_nil ?_
          refine T_if rfl (fun h97 => ?_) (fun h97 => ?_)
          · refine T_region ?_
            refine TL_y rfl rfl (Y_assign rfl) ?_
            refine TL_nil ?_
            refine T_ret ?_
            refine inB_ret ?_
            refine thenS_ret ?_
            refine thenS_ret ?_
            refine inB_ret ?_
            refine thenS_ret ?_
            exact RetG_1 (.inl rfl) rfl (ResV.tmp rfl) GivesTo.g (⟨by rw [decide_eq_false]; intro h; exact h97 ((head_msg.1 h).2.1 u (List.mem_of_getElem? hu)).2.2, rfl⟩)
          · refine T_skip ?_
            refine inB_normal ?_
            refine thenS_normal ?_
            refine T_region_last ?_
            refine TL_y rfl rfl (Y_move rfl) ?_
            refine TL_y rfl rfl (Y_add rfl rfl (by omega)) ?_
            refine TL_name 69 (v' := .int .i64 ((i + 1 : Nat) : Int)) rfl (rfl) ?_
            refine TL_y rfl rfl (Y_assign rfl) ?_
            refine TL_nil ?_
            refine thenS_normal ?_
            exact ⟨i + 1, ⟨by omega, by rw [take_at hu]; intro n hn; rcases List.mem_append.1 hn with h | h; exact hi.2 n h; (simp at h; subst h; exact ⟨Classical.not_not.1 h78, Classical.not_not.1 h88, Classical.not_not.1 h97⟩)⟩, by omega, holds_to (sub_cons rfl (sub_cons rfl (sub_nil))) GivesTo.g⟩
    · refine T_exit ?_
      refine thenS_exit ?_
      refine thenS_exit ?_
      refine inB_hit ?_
      refine thenS_normal ?_
      refine T_seq ?_
      have hav : ∀ v ∈ m.voted, rVoted v := by have := hi.2; rwa [List.take_of_length_le (by omega)] at this
      refine T_region ?_
      refine TL_y rfl rfl (Y_assign rfl) ?_
      refine TL_nil ?_
      refine T_block ?_
      refine T_loopK (σ := Nat) [1] (fun j => j ≤ m.events.length ∧ ∀ v ∈ m.events.take j, rEvent v) (fun j kv => (4, .int .i64 (j : Int)) :: kv) (fun j => cells b1 (msgC m p) 49 :: mL m p L) (fun j => m.events.length - j) (0) rfl (⟨Nat.zero_le _, by simp⟩) (GivesTo.g) (sub_cons rfl (sub_cons rfl (sub_nil))) ?_
      intro j hj
      refine T_seq ?_
      refine T_region ?_
      refine TL_y rfl rfl (Y_move rfl) ?_
      refine TL_y rfl rfl (Y_field_addr rfl) ?_
      refine TL_y rfl rfl (Y_load rfl rfl) ?_
      refine TL_y rfl rfl (Y_len rfl) ?_
      refine TL_y rfl rfl (Y_lt rfl rfl) ?_
      refine TL_nil ?_
      refine T_if rfl (fun h102 => ?_) (fun h102 => ?_)
      · refine T_skip ?_
        refine thenS_normal ?_
        refine T_seq ?_
        refine T_block ?_
        refine T_region ?_
        refine TL_y rfl rfl (Y_field_addr rfl) ?_
        refine TL_y rfl rfl (Y_load rfl rfl) ?_
        refine TL_y rfl rfl (Y_move rfl) ?_
        obtain ⟨u, hu⟩ : ∃ u, m.events[j]? = some u := ⟨_, List.getElem?_eq_getElem (by omega)⟩
        refine TL_index_n rfl rfl rfl (rfl) (sln) (hu) ?_
        intro bn108 on108 hA108 hk108
        have hu108 := hu
        refine TL_load_nx rfl rfl hk108 hu108 (fun _ => rfl) ?_
        intro p109 ok109
        simp only [List.cons_append, List.nil_append]
        refine TL_call rfl rfl (rightEvent_spec u ok109 slk) ?_
        rintro _ _ ⟨rfl, rfl⟩
        refine TL_y rfl rfl (Y_not_d rfl) ?_
        refine TL_nil ?_
        refine T_if rfl (fun h111 => ?_) (fun h111 => ?_)
        · refine T_region ?_
          refine TL_y rfl rfl (Y_assign rfl) ?_
          refine TL_nil ?_
          refine T_ret ?_
          refine inB_ret ?_
          refine thenS_ret ?_
          refine thenS_ret ?_
          refine inB_ret ?_
          refine thenS_ret ?_
          exact RetG_1 (.inl rfl) rfl (ResV.tmp rfl) GivesTo.g (⟨by rw [decide_eq_false]; intro h; exact h111 ((head_msg.1 h).2.2 u (List.mem_of_getElem? hu)), rfl⟩)
        · refine T_skip ?_
          refine inB_normal ?_
          refine thenS_normal ?_
          refine T_region_last ?_
          refine TL_y rfl rfl (Y_move rfl) ?_
          refine TL_y rfl rfl (Y_add rfl rfl (by omega)) ?_
          refine TL_name 104 (v' := .int .i64 ((j + 1 : Nat) : Int)) rfl (rfl) ?_
          refine TL_y rfl rfl (Y_assign rfl) ?_
          refine TL_nil ?_
          refine thenS_normal ?_
          exact ⟨j + 1, ⟨by omega, by rw [take_at hu]; intro n hn; rcases List.mem_append.1 hn with h | h; exact hj.2 n h; (simp at h; subst h; exact Classical.not_not.1 h111)⟩, by omega, holds_to (sub_cons rfl (sub_cons rfl (sub_nil))) GivesTo.g⟩
      · refine T_exit ?_
        refine thenS_exit ?_
        refine thenS_exit ?_
        refine inB_hit ?_
        refine thenS_normal ?_
        refine T_region ?_
        refine TL_y rfl rfl (Y_assign rfl) ?_
        refine TL_nil ?_
        refine T_ret ?_
        have hae : ∀ v ∈ m.events, rEvent v := by have := hj.2; rwa [List.take_of_length_le (by omega)] at this
        exact RetG_1 (.inl rfl) rfl (ResV.tmp rfl) GivesTo.g (⟨by rw [decide_eq_true (head_msg.2 ⟨Classical.not_not.1 h62, hav, hae⟩)], rfl⟩)
end Go.SL
set_option linter.unusedVariables false
namespace Go.SL
open Go Go.Proofs
end Go.SL
set_option linter.unusedVariables false
set_option linter.unusedSimpArgs false
namespace Go.SL
open Go Go.Proofs
def PartRes {α : Type} (ok iv : α → Prop) (b : α → List Int) (bs : List Int) (e : Int) : Prop := ∃ x s', RdR ok iv b (rs0 bs) x s' ∧ ((e = 0 ∧ s'.bad = false) ∨ (e = 10 ∧ s'.bad = true))
theorem bNum_pos (n : Int) : 0 < (bNum n).length := grp_pos _
theorem bMsg_pos (m : MsgD) : 0 < (bMsg m).length := by have := bNum_pos m.kind; unfold bMsg; simp only [List.length_append]; omega
end Go.SL
set_option linter.unusedVariables false
set_option linter.unusedSimpArgs false
namespace Go.SL
open Go Go.Proofs
theorem rec_none {s : AccD} {m : MsgD} : recA s m = ⟨#[]⟩ ↔ ¬ (mineA s m ∧ ¬ nackA s m ∧ chgA s m) := by
  unfold recA
  by_cases h : mineA s m ∧ ¬ nackA s m ∧ chgA s m
  · rw [if_pos h]
    refine ⟨fun e => ?_, fun e => absurd h e⟩
    have h1 := congrArg ByteArray.size e
    rw [strOfNums_size, (out_msg h.1.1).2] at h1
    have h2 := bMsg_pos m
    have h3 : ByteArray.size ⟨#[]⟩ = 0 := rfl
    omega
  · rw [if_neg h]
    exact ⟨fun _ => h, fun _ => rfl⟩
def UnderP (s : AccD) : Prop := ∀ v ∈ s.V, ¬ 0 < cmpB v.bal s.prom
theorem cmpB_self (a : Int × Int) : cmpB a a = 0 := cmpB_zero.2 rfl
theorem cmpB_le {a b c : Int × Int} (h : ¬ 0 < cmpB a b) (k : ¬ cmpB c b < 0) : ¬ 0 < cmpB a c := by
  have e1 : ¬ cmpB b a < 0 := by rw [cmpB_neg b a]; omega
  have e2 : ¬ cmpB c a < 0 := by rw [cmpB_lt] at *; omega
  rw [cmpB_neg a c]; omega
theorem UnderP.step {s : AccD} (h : UnderP s) (m : MsgD) : UnderP (stA s m) := by
  unfold stA
  split
  · rename_i hc
    have hle : ¬ cmpB m.bal s.prom < 0 := fun e => hc.2 (.inl e)
    have hold : ∀ v ∈ s.V, ¬ 0 < cmpB v.bal m.bal := fun v hv => cmpB_le (h v hv) hle
    by_cases hk : m.kind = 1
    · rw [if_pos hk]; exact hold
    · rw [if_neg hk]
      intro v hv
      rcases put_mem.1 hv with rfl | ⟨hv, _⟩
      · show ¬ 0 < cmpB m.bal m.bal
        rw [cmpB_self]; omega
      · exact hold v hv
  · exact h
theorem UnderP.new (n : Int) : UnderP (acNew n) := fun v hv => by cases hv
theorem msgK_nil {m : MsgD} {L : List HP} (h1 : m.en.order.cut = []) (h2 : m.voted = []) (h3 : m.seen = []) (h4 : m.events = []) : MsgK L m mP0 := ⟨by rw [h1]; exact slnil, by rw [h2]; exact slnil, by rw [h3]; exact slnil, by rw [h4]; exact slnil⟩
abbrev lm1 : MsgD := ⟨1, 0, 1, (2, 0), 0, noopE, [], [], [], 0⟩
abbrev lm2 : MsgD := ⟨3, 2, 1, (1, 2), 0, noopE, [], [], [], 0⟩
abbrev lm3 : MsgD := ⟨3, 0, 1, (2, 0), 3, noopE, [], [], [], 0⟩
abbrev ls1 : AccD := ⟨1, (2, 0), []⟩
theorem noopOk : orderOk' noopE.order := ⟨by decide, by decide, by decide, by decide⟩
theorem smallOk {m : MsgD} (h : 0 ≤ m.kind ∧ m.kind ≤ 255 ∧ 0 ≤ m.frm ∧ m.frm ≤ 255 ∧ 0 ≤ m.to_ ∧ m.to_ ≤ 255 ∧ 0 ≤ m.bal.1 ∧ m.bal.1 ≤ 2147483648 ∧ 0 ≤ m.bal.2 ∧ m.bal.2 ≤ 255 ∧ 0 ≤ m.slot ∧ m.slot ≤ 2147483648 ∧ 0 ≤ m.time ∧ m.time ≤ 255) (he : orderOk' m.en.order) : MsgOk m := ⟨i64In_mk (by omega), i64In_mk (by omega), i64In_mk (by omega), i64In_mk (by omega), i64In_mk (by omega), i64In_mk (by omega), he, i64In_mk (by omega)⟩
theorem lm1_ok : MsgOk lm1 := smallOk (by decide) noopOk
theorem lm2_ok : MsgOk lm2 := smallOk (by decide) noopOk
theorem lm3_ok : MsgOk lm3 := smallOk (by decide) noopOk
theorem lm1_m : mineA (acNew 1) lm1 := by unfold mineA; decide +kernel
theorem lm2_m : mineA ls1 lm2 := by unfold mineA; decide +kernel
theorem lm3_m : mineA ls1 lm3 := by unfold mineA; decide +kernel
theorem lm1_n : ¬ nackA (acNew 1) lm1 := by unfold nackA; decide +kernel
theorem lm2_n : nackA ls1 lm2 := .inl (by decide +kernel)
theorem lm3_n : ¬ nackA ls1 lm3 := by unfold nackA; decide +kernel
theorem lm1_r : recA (acNew 1) lm1 ≠ ⟨#[]⟩ := fun h => rec_none.1 h ⟨lm1_m, lm1_n, .inl (by decide)⟩
theorem lm2_r : recA ls1 lm2 = ⟨#[]⟩ := rec_none.2 fun h => h.2.1 lm2_n
theorem lm3_r : recA ls1 lm3 ≠ ⟨#[]⟩ := fun h => rec_none.1 h ⟨lm3_m, lm3_n, .inr ⟨rfl, by show (none : Option VotedD) ≠ _; simp⟩⟩
theorem lm1_s : stA (acNew 1) lm1 = ls1 := by unfold stA; rw [if_pos ⟨lm1_m, lm1_n⟩]; rfl
theorem lm2_s : stA ls1 lm2 = ls1 := by unfold stA; rw [if_neg (fun h => h.2 lm2_n)]
theorem lm3_s : stA ls1 lm3 = ⟨1, (2, 0), [newV lm3]⟩ := by unfold stA; rw [if_pos ⟨lm3_m, lm3_n⟩]; rfl
theorem lm1_p : repA (acNew 1) lm1 = repM (acNew 1) lm1 2 (2, 0) [] := by unfold repA; rw [if_pos lm1_m, if_neg lm1_n]; rfl
theorem lm2_p : repA ls1 lm2 = repM ls1 lm2 5 (2, 0) [] := by unfold repA; rw [if_pos lm2_m, if_pos lm2_n]
theorem lm3_p : repA ls1 lm3 = repM ls1 lm3 4 (2, 0) [] := by unfold repA; rw [if_pos lm3_m, if_neg lm3_n]; rfl
theorem lives16_spec (L : List HP) : Fn Tryz.prog 6 #[] L (fun v L' => v = .bool true ∧ L' = L) := by
  refine Fn_enter Tryz.func6 rfl rfl rfl rfl ?_
  refine T_region ?_
  refine TL_y rfl rfl (Y_assign rfl) ?_
  refine TL_nil ?_
  refine T_region ?_
  refine TL_call rfl rfl (acNew_ok 1 (by decide) _) ?_
  rintro _ _ ⟨b14, rfl, rfl⟩
  refine TL_y rfl rfl (Y_move rfl) ?_
  refine TL_y rfl rfl (Y_extract rfl rfl) ?_
  refine TL_y rfl rfl (Y_extract rfl rfl) ?_
  refine TL_y rfl rfl (Y_assign rfl) ?_
  refine TL_y rfl rfl (Y_assign rfl) ?_
  refine TL_nil ?_
  refine T_seq ?_
  refine T_region ?_
  refine TL_y rfl rfl (Y_move rfl) ?_
  refine TL_y rfl rfl (Y_ne rfl rfl) ?_
  refine TL_name 18 (v' := .bool false) rfl (congrArg Value.bool (decide_eq_false (by decide))) ?_
  refine TL_y rfl rfl (Y_move rfl) ?_
  refine TL_grun rfl rfl ?_
  refine TL_y rfl rfl (Y_move rfl) ?_
  refine TL_grun rfl rfl ?_
  refine TL_y rfl rfl (Y_equal rfl rfl (EqIs.ptr_nil)) ?_
  refine TL_name 21 (v' := .bool false) rfl (by simp) ?_
  refine TL_y rfl rfl (Y_pick_f rfl rfl) ?_
  refine TL_nil ?_
  refine T_cond_false rfl ?_
  refine T_skip ?_
  refine thenS_normal ?_
  refine T_region ?_
  refine TL_y rfl rfl (Y_build rfl rfl) ?_
  refine TL_alloc rfl rfl ?_
  intro b3
  refine TL_store rfl rfl rfl rfl rfl rfl ?_
  refine TL_nil ?_
  refine T_region ?_
  refine TL_y rfl rfl (Y_move rfl) ?_
  refine TL_y rfl rfl (Y_build rfl rfl) ?_
  refine TL_y rfl rfl (Y_load_agg rfl rfl) ?_
  refine TL_y rfl rfl (Y_build rfl rfl) ?_
  refine TL_pullk b14 ?_
  refine TL_call rfl rfl (acOn_spec (s := acNew 1) lm1 mP0 lm1_ok (msgK_nil rfl rfl rfl rfl) (by decide +kernel)) ?_
  rintro _ _ ⟨q29, rfl, rfl⟩
  rw [lm1_p, lm1_s, decide_eq_true lm1_m]
  refine TL_y rfl rfl (Y_move rfl) ?_
  refine TL_y rfl rfl (Y_extract rfl rfl) ?_
  refine TL_y rfl rfl (Y_extract rfl rfl) ?_
  refine TL_y rfl rfl (Y_extract rfl rfl) ?_
  refine TL_alloc rfl rfl ?_
  intro b4
  refine TL_store rfl rfl rfl rfl rfl rfl ?_
  refine TL_y rfl rfl (Y_assign rfl) ?_
  refine TL_y rfl rfl (Y_assign rfl) ?_
  refine TL_nil ?_
  refine T_region ?_
  refine TL_y rfl rfl (Y_move rfl) ?_
  refine TL_y rfl rfl (Y_build rfl rfl) ?_
  refine TL_y rfl rfl (Y_load_agg rfl rfl) ?_
  refine TL_y rfl rfl (Y_build rfl rfl) ?_
  refine TL_pullk b14 ?_
  refine TL_call rfl rfl (acOn_spec (s := ls1) lm2 mP0 lm2_ok (msgK_nil rfl rfl rfl rfl) (by decide +kernel)) ?_
  rintro _ _ ⟨q38, rfl, rfl⟩
  rw [lm2_p, lm2_s, lm2_r, decide_eq_true lm2_m]
  refine TL_y rfl rfl (Y_move rfl) ?_
  refine TL_y rfl rfl (Y_extract rfl rfl) ?_
  refine TL_y rfl rfl (Y_extract rfl rfl) ?_
  refine TL_y rfl rfl (Y_extract rfl rfl) ?_
  refine TL_alloc rfl rfl ?_
  intro b7
  refine TL_store rfl rfl rfl rfl rfl rfl ?_
  refine TL_y rfl rfl (Y_assign rfl) ?_
  refine TL_y rfl rfl (Y_assign rfl) ?_
  refine TL_nil ?_
  refine T_region ?_
  refine TL_y rfl rfl (Y_move rfl) ?_
  refine TL_y rfl rfl (Y_build rfl rfl) ?_
  refine TL_y rfl rfl (Y_load_agg rfl rfl) ?_
  refine TL_y rfl rfl (Y_build rfl rfl) ?_
  refine TL_pullk b14 ?_
  refine TL_call rfl rfl (acOn_spec (s := ls1) lm3 mP0 lm3_ok (msgK_nil rfl rfl rfl rfl) (by decide +kernel)) ?_
  rintro _ _ ⟨q47, rfl, rfl⟩
  rw [lm3_p, lm3_s, decide_eq_true lm3_m]
  refine TL_y rfl rfl (Y_move rfl) ?_
  refine TL_y rfl rfl (Y_extract rfl rfl) ?_
  refine TL_y rfl rfl (Y_extract rfl rfl) ?_
  refine TL_y rfl rfl (Y_extract rfl rfl) ?_
  refine TL_alloc rfl rfl ?_
  intro b10
  refine TL_store rfl rfl rfl rfl rfl rfl ?_
  refine TL_y rfl rfl (Y_assign rfl) ?_
  refine TL_y rfl rfl (Y_assign rfl) ?_
  refine TL_nil ?_
  refine T_region ?_
  refine TL_y rfl rfl (Y_move rfl) ?_
  refine TL_name 51 (v' := .bool true) rfl (rfl) ?_
  refine TL_y rfl rfl (Y_move rfl) ?_
  refine TL_grun rfl rfl ?_
  refine TL_y rfl rfl (Y_move rfl) ?_
  refine TL_name 53 (v' := .bool true) rfl (rfl) ?_
  refine TL_y rfl rfl (Y_pick_t rfl rfl) ?_
  refine TL_y rfl rfl (Y_move rfl) ?_
  refine TL_grun rfl rfl ?_
  refine TL_y rfl rfl (Y_move rfl) ?_
  refine TL_name 56 (v' := .bool true) rfl (rfl) ?_
  refine TL_y rfl rfl (Y_pick_t rfl rfl) ?_
  refine TL_y rfl rfl (Y_move rfl) ?_
  refine TL_grun rfl rfl ?_
  refine TL_y rfl rfl (Y_field_addr rfl) ?_
  refine TL_grun rfl rfl ?_
  refine TL_y rfl rfl (Y_load rfl rfl) ?_
  refine TL_grun rfl rfl ?_
  refine TL_y rfl rfl (Y_eq rfl rfl) ?_
  refine TL_name 61 (v' := .bool true) rfl (congrArg Value.bool (decide_eq_true rfl)) ?_
  refine TL_y rfl rfl (Y_pick_t rfl rfl) ?_
  refine TL_y rfl rfl (Y_move rfl) ?_
  refine TL_grun rfl rfl ?_
  refine TL_y rfl rfl (Y_move rfl) ?_
  refine TL_grun rfl rfl ?_
  refine TL_y rfl rfl (Y_str_ne rfl rfl) ?_
  refine TL_name 65 (v' := .bool true) rfl (congrArg Value.bool (decide_eq_true lm1_r)) ?_
  refine TL_y rfl rfl (Y_pick_t rfl rfl) ?_
  refine TL_y rfl rfl (Y_move rfl) ?_
  refine TL_grun rfl rfl ?_
  refine TL_y rfl rfl (Y_field_addr rfl) ?_
  refine TL_grun rfl rfl ?_
  refine TL_y rfl rfl (Y_load rfl rfl) ?_
  refine TL_grun rfl rfl ?_
  refine TL_y rfl rfl (Y_eq rfl rfl) ?_
  refine TL_name 70 (v' := .bool true) rfl (congrArg Value.bool (decide_eq_true rfl)) ?_
  refine TL_y rfl rfl (Y_pick_t rfl rfl) ?_
  refine TL_y rfl rfl (Y_move rfl) ?_
  refine TL_grun rfl rfl ?_
  refine TL_y rfl rfl (Y_move rfl) ?_
  refine TL_grun rfl rfl ?_
  refine TL_y rfl rfl (Y_str_eq rfl rfl) ?_
  refine TL_name 74 (v' := .bool true) rfl (congrArg Value.bool (decide_eq_true rfl)) ?_
  refine TL_y rfl rfl (Y_pick_t rfl rfl) ?_
  refine TL_y rfl rfl (Y_move rfl) ?_
  refine TL_grun rfl rfl ?_
  refine TL_y rfl rfl (Y_field_addr rfl) ?_
  refine TL_grun rfl rfl ?_
  refine TL_y rfl rfl (Y_field_addr rfl) ?_
  refine TL_grun rfl rfl ?_
  refine TL_y rfl rfl (Y_load rfl rfl) ?_
  refine TL_grun rfl rfl ?_
  refine TL_y rfl rfl (Y_eq rfl rfl) ?_
  refine TL_name 80 (v' := .bool true) rfl (congrArg Value.bool (decide_eq_true rfl)) ?_
  refine TL_y rfl rfl (Y_pick_t rfl rfl) ?_
  refine TL_y rfl rfl (Y_move rfl) ?_
  refine TL_grun rfl rfl ?_
  refine TL_y rfl rfl (Y_field_addr rfl) ?_
  refine TL_grun rfl rfl ?_
  refine TL_y rfl rfl (Y_load rfl rfl) ?_
  refine TL_grun rfl rfl ?_
  refine TL_y rfl rfl (Y_eq rfl rfl) ?_
  refine TL_name 85 (v' := .bool true) rfl (congrArg Value.bool (decide_eq_true rfl)) ?_
  refine TL_y rfl rfl (Y_pick_t rfl rfl) ?_
  refine TL_y rfl rfl (Y_move rfl) ?_
  refine TL_grun rfl rfl ?_
  refine TL_y rfl rfl (Y_move rfl) ?_
  refine TL_grun rfl rfl ?_
  refine TL_y rfl rfl (Y_str_ne rfl rfl) ?_
  refine TL_name 89 (v' := .bool true) rfl (congrArg Value.bool (decide_eq_true lm3_r)) ?_
  refine TL_y rfl rfl (Y_pick_t rfl rfl) ?_
  refine TL_y rfl rfl (Y_move rfl) ?_
  refine TL_grun rfl rfl ?_
  refine TL_y rfl rfl (Y_move rfl) ?_
  refine TL_grun rfl rfl ?_
  refine TL_pullk b14 ?_
  refine TL_call rfl rfl (acVotes_spec (s := ⟨1, (2, 0), [newV lm3]⟩)) ?_
  rintro _ _ ⟨A93, c93, rfl, rfl⟩
  refine TL_grun rfl rfl ?_
  refine TL_y rfl rfl (Y_len rfl) ?_
  refine TL_grun rfl rfl ?_
  refine TL_y rfl rfl (Y_eq rfl rfl) ?_
  refine TL_name 95 (v' := .bool true) rfl (congrArg Value.bool (decide_eq_true rfl)) ?_
  refine TL_y rfl rfl (Y_pick_t rfl rfl) ?_
  refine TL_y rfl rfl (Y_assign rfl) ?_
  refine TL_nil ?_
  refine T_ret ?_
  exact RetG_1 (.inl rfl) rfl (ResV.tmp rfl) GivesTo.g (⟨rfl, rfl⟩)
end Go.SL
set_option linter.unusedVariables false
set_option linter.unusedSimpArgs false
namespace Go.SL
open Go Go.Proofs
instance : IsEx msgR MsgP 15 msgC (fun m p => [sl (intR .i64) p.cut.1 p.cut.2 m.en.order.cut, sl votedR p.voted.1 p.voted.2 m.voted, sl (intR .i64) p.seen.1 p.seen.2 m.seen, sl eventR p.events.1 p.events.2 m.events]) MsgOk := ⟨_, _, rfl⟩
structure KpSt where
  i : Nat
  s : AccD
theorem inc_at {V : List VotedD} (h : IncV V) {i j : Nat} {u v : VotedD} (hu : V[i]? = some u) (hv : V[j]? = some v) (hij : i < j) : u.slot < v.slot := by
  have h1 := List.pairwise_iff_getElem.1 h i j (List.getElem?_eq_some_iff.1 hu).1 (List.getElem?_eq_some_iff.1 hv).1 hij
  rwa [(List.getElem?_eq_some_iff.1 hu).2, (List.getElem?_eq_some_iff.1 hv).2] at h1
end Go.SL
set_option linter.unusedVariables false
set_option linter.unusedSimpArgs false
namespace Go.SL
open Go Go.Proofs
abbrev pm (b : Int × Int) : MsgD := ⟨1, 0, 1, b, 0, noopE, [], [], [], 0⟩
end Go.SL
set_option linter.unusedVariables false
set_option linter.unusedSimpArgs false
namespace Go.SL
open Go Go.Proofs
theorem bNum_len {most n : Int} (h : rNum most n) (hm : most ≤ 4611686018427387904) : (bNum n).length ≤ 10 := by
  unfold rNum at h; exact grp_ten (x := n.toNat) (by omega)
theorem txt_len {s : ByteArray} (h : isName s) : (txt s).length ≤ 42 := by
  have h2 := h.2.2
  have := grp_ten (x := s.size) (by omega)
  rw [txt_length]; omega
theorem bAll_len {α : Type} {b : α → List Int} {k : Nat} : ∀ {l : List α}, (∀ x ∈ l, (b x).length ≤ k) → (bAll b l).length ≤ k * l.length
  | [], _ => by simp [bAll]
  | x :: l, h => by
    have h1 := h x List.mem_cons_self
    have h2 := bAll_len (l := l) (fun y hy => h y (List.mem_cons_of_mem _ hy))
    rw [bAll_cons, List.length_append, List.length_cons, Nat.mul_succ]; omega
theorem bVec_len {v : List Int} (h : rVec v) : (bVec v).length ≤ 80 := by
  have h1 := h.2.1
  have h2 := bNum_len (n := (v.length : Int)) (most := 7) (by unfold rNum; omega) (by decide)
  have h3 := bAll_len (b := bNum) (k := 10) (l := v) (fun x hx => bNum_len (h.1 x hx) (by decide))
  unfold bVec; rw [List.length_append]; omega
theorem bBal_len {a : Int × Int} (h : rBal a) : (bBal a).length ≤ 20 := by
  have h1 := bNum_len h.1 (by decide); have h2 := bNum_len h.2 (by decide)
  unfold bBal; rw [List.length_append]; omega
theorem bSeal_len {x : OrderD} (h : rSeal x) : (bSeal x).length ≤ 174 := by
  have h1 := txt_len h.1; have h2 := txt_len h.2.1; have h3 := bNum_len h.2.2.1 (by decide); have h4 := bVec_len h.2.2.2
  unfold bSeal; simp only [List.length_append]; omega
theorem bTruth_len (b : Bool) : (bTruth b).length ≤ 10 := grp_ten (by cases b <;> decide)
theorem bEntry_len {e : EntryD} (h : rEntry e) : (bEntry e).length ≤ 184 := by
  have h1 := bTruth_len e.noop
  unfold rEntry at h
  unfold bEntry
  rw [List.length_append]
  split at h
  · rename_i k; rw [if_pos k]; simp only [List.length_nil]; omega
  · rename_i k; rw [if_neg k]; have := bSeal_len h; omega
theorem bEvent_len {e : EventD} (h : rEvent e) : (bEvent e).length ≤ 214 := by
  obtain ⟨h1, h2, h3, h4, h5, h6, h7⟩ := h
  have a1 := bNum_len h1 (by decide); have a2 := bNum_len h2 (by decide); have a3 := bVec_len h3; have a4 := txt_len h4; have a5 := bNum_len h5 (by decide); have a6 := txt_len h6; have a7 := bNum_len h7 (by decide); have a8 := bTruth_len e.clears
  unfold bEvent; simp only [List.length_append]; omega
theorem bVoted_len {v : VotedD} (h : rVoted v) : (bVoted v).length ≤ 214 := by
  have a1 := bNum_len h.1 (by decide); have a2 := bBal_len h.2.1; have a3 := bEntry_len h.2.2
  unfold bVoted; simp only [List.length_append]; omega
theorem nat_of {most n : Int} (h : rNum most n) (hm : most ≤ 4611686018427387904) : IntKind.u64.wrap n = ((n.toNat : Nat) : Int) := by
  unfold rNum at h
  conv => lhs; rw [show n = ((n.toNat : Nat) : Int) by omega]
  exact u64_small (by omega)
theorem nat_lt {most n : Int} (h : rNum most n) (hm : most ≤ 4611686018427387904) : n.toNat < 18446744073709551616 := by unfold rNum at h; omega
structure LpSt1 where
  i : Nat
  A : Option Addr
  c : Nat
theorem refVec_spec {L : List HP} {A : Option Addr} {c : Nat} {xs : List Int} (hr : rVec xs) (hk : SlK L (intR .i64) A c xs) : Fn Tryz.prog 89 #[.slice A xs.length c] L (fun v L' => ∃ A' c', v = .slice A' (bVec xs).length c' ∧ L' = osl (intR .u8) 5 A' c' (bVec xs) :: L) := by
  have h7 := hr.2.1
  have hlen := bNum_len (n := (xs.length : Int)) (most := 7) (by unfold rNum; omega) (by decide)
  refine Fn_enter Tryz.func89 rfl rfl rfl rfl ?_
  refine T_gives hk.lay ?_
  refine T_region ?_
  refine TL_y rfl rfl (Y_assign rfl) ?_
  refine TL_nil ?_
  refine T_region ?_
  refine TL_y rfl rfl (Y_move rfl) ?_
  refine TL_y rfl rfl (Y_len rfl) ?_
  refine TL_y rfl rfl (Y_conv rfl) ?_
  refine TL_name 7 (v' := .int .u64 ((xs.length : Nat) : Int)) rfl (by rw [u64_small (by omega)]) ?_
  refine TL_call rfl rfl (refUint_spec xs.length (by omega) _) ?_
  rintro _ _ ⟨A8, c8, rfl, rfl⟩
  rw [show grp xs.length = bNum (xs.length : Int) ++ bAll bNum (xs.take 0) by simp [bNum, bAll]]
  refine TL_y rfl rfl (Y_assign rfl) ?_
  refine TL_nil ?_
  refine T_seq ?_
  refine T_region ?_
  refine TL_y rfl rfl (Y_assign rfl) ?_
  refine TL_nil ?_
  refine T_block ?_
  refine T_loopK (σ := LpSt1) [0] (fun g => g.i ≤ xs.length) (fun g kv => (4, .int .i64 (g.i : Int)) :: (3, .slice g.A (bNum (xs.length : Int) ++ bAll bNum (xs.take g.i)).length g.c) :: kv) (fun g => osl (intR .u8) 5 g.A g.c (bNum (xs.length : Int) ++ bAll bNum (xs.take g.i)) :: sl (intR .i64) A c xs :: L) (fun g => xs.length - g.i) (⟨0, A8, c8⟩) rfl (Nat.zero_le _) (GivesTo.g) (sub_cons rfl (sub_cons rfl (sub_cons rfl (sub_nil)))) ?_
  rintro ⟨i, A2, c2⟩ hi
  dsimp only at hi ⊢
  refine T_seq ?_
  refine T_region ?_
  refine TL_y rfl rfl (Y_move rfl) ?_
  refine TL_y rfl rfl (Y_move rfl) ?_
  refine TL_y rfl rfl (Y_len rfl) ?_
  refine TL_y rfl rfl (Y_lt rfl rfl) ?_
  refine TL_nil ?_
  refine T_if rfl (fun h12 => ?_) (fun h12 => ?_)
  · refine T_skip ?_
    refine thenS_normal ?_
    refine T_seq ?_
    refine T_block ?_
    refine T_region_last ?_
    refine TL_y rfl rfl (Y_move rfl) ?_
    refine TL_y rfl rfl (Y_move rfl) ?_
    refine TL_y rfl rfl (Y_move rfl) ?_
    obtain ⟨u, hu⟩ : ∃ u, xs[i]? = some u := ⟨_, List.getElem?_eq_getElem (by omega)⟩
    have hru := hr.1 u (List.mem_of_getElem? hu)
    have hlu := bNum_len hru (by decide)
    have hla := bAll_len (b := bNum) (k := 10) (l := xs.take i) (fun x hx => bNum_len (hr.1 x (List.mem_of_mem_take hx)) (by decide))
    have hlt : (xs.take i).length ≤ 7 := by rw [List.length_take]; omega
    refine TL_index_int rfl rfl rfl slk hu ?_
    intro hi18 bi18 oi18
    refine TL_y rfl rfl (Y_load_row rfl rfl) ?_
    refine TL_y rfl rfl (Y_conv rfl) ?_
    refine TL_name 20 (v' := .int .u64 ((u.toNat : Nat) : Int)) rfl (by rw [nat_of hru (by decide)]) ?_
    refine TL_call rfl rfl (refUint_spec u.toNat (nat_lt hru (by decide)) _) ?_
    rintro _ _ ⟨A21, c21, rfl, rfl⟩
    refine TL_freeze_osl ?_
    rw [show grp u.toNat = bNum u from rfl]
    refine TL_append rfl rfl rfl rfl rfl slk (by rw [List.length_append]; omega) ?_
    intro A22 c22
    rw [show bNum (xs.length : Int) ++ bAll bNum (xs.take i) ++ bNum u = bNum (xs.length : Int) ++ bAll bNum (xs.take (i + 1)) by rw [take_at hu, bAll_snoc, List.append_assoc]]
    refine TL_y rfl rfl (Y_assign rfl) ?_
    refine TL_nil ?_
    refine inB_normal ?_
    refine thenS_normal ?_
    refine T_region_last ?_
    refine TL_y rfl rfl (Y_move rfl) ?_
    refine TL_y rfl rfl (Y_add rfl rfl (by omega)) ?_
    refine TL_name 14 (v' := .int .i64 ((i + 1 : Nat) : Int)) rfl (rfl) ?_
    refine TL_y rfl rfl (Y_assign rfl) ?_
    refine TL_nil ?_
    refine thenS_normal ?_
    exact ⟨⟨i + 1, A22, c22⟩, (by simp only; omega), by simp only; omega, holds_to (sub_cons rfl (sub_cons rfl (sub_cons rfl (sub_nil)))) GivesTo.g⟩
  · refine T_exit ?_
    refine thenS_exit ?_
    refine thenS_exit ?_
    refine inB_hit ?_
    refine thenS_normal ?_
    refine T_region ?_
    refine TL_y rfl rfl (Y_move rfl) ?_
    refine TL_y rfl rfl (Y_assign rfl) ?_
    refine TL_nil ?_
    refine T_ret ?_
    have e : xs.take i = xs := List.take_of_length_le (by omega)
    rw [e, show bNum (xs.length : Int) ++ bAll bNum xs = bVec xs from rfl]
    exact RetG_1 (.inl rfl) rfl (ResV.tmp rfl) GivesTo.g (⟨A2, c2, rfl, rfl⟩)
theorem refBallot_spec {L : List HP} (a : Int × Int) (hr : rBal a) : Fn Tryz.prog 87 #[pairV a] L (fun v L' => ∃ A' c', v = .slice A' (bBal a).length c' ∧ L' = osl (intR .u8) 5 A' c' (bBal a) :: L) := by
  have h1 := bNum_len hr.1 (by decide); have h2 := bNum_len hr.2 (by decide)
  refine Fn_enter Tryz.func87 rfl rfl rfl rfl ?_
  refine T_region ?_
  refine TL_box rfl rfl rfl ?_
  intro b1
  refine TL_y rfl rfl (Y_assign rfl) ?_
  refine TL_nil ?_
  refine T_region_draw _ [0, 1, 3, 7, 0, 16, 48, 127, 255, 511] [] [(0, true), (1, true), (2, true), (4, true), (5, true), (6, true), (3, false), (7, false), (8, false), (9, true)] (by kernel_rfl) (by decide +kernel) (Gives.refl _) ?_
  refine TF_y rfl rfl (Y_field_addr rfl) ?_
  refine TF_y rfl rfl (Y_load rfl rfl) ?_
  refine TF_y rfl rfl (Y_conv rfl) ?_
  refine TF_name 5 (v' := .int .u64 ((a.1.toNat : Nat) : Int)) rfl (by rw [nat_of hr.1 (by decide)]) ?_
  refine TF_y rfl rfl (Y_field_addr rfl) ?_
  refine TF_y rfl rfl (Y_load rfl rfl) ?_
  refine TF_y rfl rfl (Y_conv rfl) ?_
  refine TF_name 9 (v' := .int .u64 ((a.2.toNat : Nat) : Int)) rfl (by rw [nat_of hr.2 (by decide)]) ?_
  refine TF_anchor rfl ?_
  refine TL_call rfl rfl (refUint_spec a.1.toNat (nat_lt hr.1 (by decide)) _) ?_
  rintro _ _ ⟨A6, c6, rfl, rfl⟩
  rw [show grp a.1.toNat = bNum a.1 from rfl]
  refine TF_end GivesTo.g ?_
  refine TF_anchor rfl ?_
  refine TL_call rfl rfl (refUint_spec a.2.toNat (nat_lt hr.2 (by decide)) _) ?_
  rintro _ _ ⟨A10, c10, rfl, rfl⟩
  refine TL_freeze_osl ?_
  rw [show grp a.2.toNat = bNum a.2 from rfl]
  refine TF_end GivesTo.g ?_
  refine TF_anchor rfl ?_
  refine TL_append rfl rfl rfl rfl rfl slk (by omega) ?_
  intro A11 c11
  refine TF_end GivesTo.g ?_
  refine TF_y rfl rfl (Y_assign rfl) ?_
  refine TF_nil ?_
  refine T_ret ?_
  rw [show bNum a.1 ++ bNum a.2 = bBal a from rfl]
  exact RetG_1 (.inl rfl) rfl (ResV.tmp rfl) GivesTo.g (⟨A11, c11, rfl, rfl⟩)
theorem refSealW_spec {L : List HP} {A : Option Addr} {c : Nat} (x : OrderD) (hr : rSeal x) (hk : SlK L (intR .i64) A c x.cut) : Fn Tryz.prog 104 #[.agg (List.toArray (orderC x (A, c)))] L (fun v L' => ∃ A' c', v = .slice A' (bSeal x).length c' ∧ L' = osl (intR .u8) 5 A' c' (bSeal x) :: L) := by
  have h1 := txt_len hr.1; have h2 := txt_len hr.2.1; have h3 := bNum_len hr.2.2.1 (by decide); have h4 := bVec_len hr.2.2.2
  have s1 := hr.1.2.2; have s2 := hr.2.1.2.2
  refine Fn_enter Tryz.func104 rfl rfl rfl rfl ?_
  refine T_gives hk.lay ?_
  refine T_region ?_
  refine TL_box rfl rfl rfl ?_
  intro b1
  refine TL_y rfl rfl (Y_assign rfl) ?_
  refine TL_nil ?_
  refine T_region_draw _ [0, 1, 3, 0, 8, 31, 63, 127] [] [(0, true), (1, true), (3, true), (4, true), (2, false), (5, false), (6, false), (7, true)] (by kernel_rfl) (by decide +kernel) (Gives.refl _) ?_
  refine TF_y rfl rfl (Y_field_addr rfl) ?_
  refine TF_y rfl rfl (Y_load rfl rfl) ?_
  refine TF_y rfl rfl (Y_field_addr rfl) ?_
  refine TF_y rfl rfl (Y_load rfl rfl) ?_
  refine TF_anchor rfl ?_
  refine TL_call rfl rfl (refText_spec _ x.token (by omega)) ?_
  rintro _ _ ⟨A6, c6, rfl, rfl⟩
  refine TF_end GivesTo.g ?_
  refine TF_anchor rfl ?_
  refine TL_call rfl rfl (refText_spec _ x.cart (by omega)) ?_
  rintro _ _ ⟨A9, c9, rfl, rfl⟩
  refine TL_freeze_osl ?_
  refine TF_end GivesTo.g ?_
  refine TF_anchor rfl ?_
  refine TL_append rfl rfl rfl rfl rfl slk (by omega) ?_
  intro A10 c10
  refine TF_end GivesTo.g ?_
  refine TF_y rfl rfl (Y_assign rfl) ?_
  refine TF_nil ?_
  refine T_region_draw (cells b1 (orderC x (A, c)) 44 :: []) [0, 0, 2, 6, 14, 31, 0, 64, 255, 511, 1023] [] [(0, true), (1, true), (2, true), (3, true), (6, true), (7, true), (4, false), (5, false), (8, false), (9, false), (10, true)] (by kernel_rfl) (by decide +kernel) GivesTo.g ?_
  refine TF_y rfl rfl (Y_move rfl) ?_
  refine TF_y rfl rfl (Y_field_addr rfl) ?_
  refine TF_y rfl rfl (Y_load rfl rfl) ?_
  refine TF_y rfl rfl (Y_conv rfl) ?_
  refine TF_name 14 (v' := .int .u64 ((x.epoch.toNat : Nat) : Int)) rfl (by rw [nat_of hr.2.2.1 (by decide)]) ?_
  refine TF_y rfl rfl (Y_field_addr rfl) ?_
  refine TF_y rfl rfl (Y_load rfl rfl) ?_
  refine TF_anchor rfl ?_
  refine TL_call rfl rfl (refUint_spec x.epoch.toNat (nat_lt hr.2.2.1 (by decide)) _) ?_
  rintro _ _ ⟨A15, c15, rfl, rfl⟩
  refine TL_freeze_osl ?_
  rw [show grp x.epoch.toNat = bNum x.epoch from rfl]
  refine TF_end GivesTo.g ?_
  refine TF_anchor rfl ?_
  refine TL_append rfl rfl rfl rfl rfl slk (by rw [List.length_append]; omega) ?_
  intro A16 c16
  refine TF_end GivesTo.g ?_
  refine TF_anchor rfl ?_
  refine TL_call rfl rfl (refVec_spec hr.2.2.2 slk) ?_
  rintro _ _ ⟨A19, c19, rfl, rfl⟩
  refine TL_freeze_osl ?_
  refine TF_end GivesTo.g ?_
  refine TF_anchor rfl ?_
  refine TL_append rfl rfl rfl rfl rfl slk (by simp only [List.length_append]; omega) ?_
  intro A20 c20
  rw [show txt x.token ++ txt x.cart ++ bNum x.epoch ++ bVec x.cut = bSeal x by simp [bSeal]]
  refine TF_end GivesTo.g ?_
  refine TF_y rfl rfl (Y_assign rfl) ?_
  refine TF_nil ?_
  refine T_ret ?_
  exact RetG_1 (.inl rfl) rfl (ResV.tmp rfl) GivesTo.g (⟨A20, c20, rfl, rfl⟩)
theorem grp_truth (b : Bool) : bTruth b = [if b then 1 else 0] := by cases b <;> (unfold bTruth bNum; rw [grp, if_pos (by decide)]; rfl)
theorem refTruth_spec (L : List HP) (b : Bool) : Fn Tryz.prog 106 #[.bool b] L (fun v L' => v = .int .u8 (if b then 1 else 0) ∧ L' = L) := by
  refine Fn_enter Tryz.func106 rfl rfl rfl rfl ?_
  refine T_region ?_
  refine TL_y rfl rfl (Y_assign rfl) ?_
  refine TL_nil ?_
  refine T_seq ?_
  refine T_region ?_
  refine TL_y rfl rfl (Y_move rfl) ?_
  refine TL_nil ?_
  refine T_cond rfl (fun h3 => ?_) (fun h3 => ?_)
  · refine T_region ?_
    refine TL_y rfl rfl (Y_assign rfl) ?_
    refine TL_nil ?_
    refine T_ret ?_
    refine thenS_ret ?_
    exact RetG_1 (.inl rfl) rfl (ResV.tmp rfl) GivesTo.g (⟨by rw [h3]; rfl, rfl⟩)
  · refine T_skip ?_
    refine thenS_normal ?_
    refine T_region ?_
    refine TL_y rfl rfl (Y_assign rfl) ?_
    refine TL_nil ?_
    refine T_ret ?_
    exact RetG_1 (.inl rfl) rfl (ResV.tmp rfl) GivesTo.g (⟨by rw [h3]; rfl, rfl⟩)
theorem one_u8 {L : List HP} {x : Int} (h : 0 ≤ x ∧ x ≤ 255) : Knows L (fun M => CellsOf M (intR .u8) [x] [.int .u8 x]) := one_cell (Knows.const fun M => ⟨rfl, u8In_mk h⟩)
theorem refEntry_spec {L : List HP} {A : Option Addr} {c : Nat} (e : EntryD) (hr : rEntry e) (hk : SlK L (intR .i64) A c e.order.cut) : Fn Tryz.prog 88 #[.agg (List.toArray (entryC e (A, c)))] L (fun v L' => ∃ A' c', v = .slice A' (bEntry e).length c' ∧ L' = osl (intR .u8) 5 A' c' (bEntry e) :: L) := by
  refine Fn_enter Tryz.func88 rfl rfl rfl rfl ?_
  refine T_gives hk.lay ?_
  refine T_region ?_
  refine TL_box rfl rfl rfl ?_
  intro b1
  refine TL_y rfl rfl (Y_assign rfl) ?_
  refine TL_nil ?_
  refine T_seq ?_
  refine T_region ?_
  refine TL_y rfl rfl (Y_field_addr rfl) ?_
  refine TL_y rfl rfl (Y_load rfl rfl) ?_
  refine TL_nil ?_
  refine T_cond rfl (fun h4 => ?_) (fun h4 => ?_)
  · refine T_region ?_
    refine TL_build_slice rfl rfl rfl rfl rfl rfl ?_
    intro b5
    refine TL_osl (k := 1) (intR .u8) [1] (one_u8 (by decide)) rfl (by decide) ?_
    refine TL_name 5 (v' := .slice (some ⟨b5, 0, none⟩) ([1] : List Int).length 1) rfl rfl ?_
    refine TL_y rfl rfl (Y_assign rfl) ?_
    refine TL_nil ?_
    refine T_ret ?_
    refine thenS_ret ?_
    rw [show ([1] : List Int) = bEntry e by unfold bEntry; rw [if_pos h4, h4, grp_truth]; rfl]
    exact RetG_1 (.inl rfl) rfl (ResV.tmp rfl) GivesTo.g (⟨_, _, rfl, rfl⟩)
  · refine T_skip ?_
    refine thenS_normal ?_
    refine T_region ?_
    refine TL_build_slice rfl rfl rfl rfl rfl rfl ?_
    intro b6
    refine TL_osl (k := 1) (intR .u8) [0] (one_u8 (by decide)) rfl (by decide) ?_
    refine TL_name 6 (v' := .slice (some ⟨b6, 0, none⟩) ([0] : List Int).length 1) rfl rfl ?_
    have hrs : rSeal e.order := by unfold rEntry at hr; rwa [if_neg (by simp [h4])] at hr
    have hsl := bSeal_len hrs
    refine TL_y rfl rfl (Y_field_addr rfl) ?_
    refine TL_y rfl rfl (Y_load_agg rfl rfl) ?_
    refine TL_call rfl rfl (refSealW_spec e.order hrs slk) ?_
    rintro _ _ ⟨A9, c9, rfl, rfl⟩
    refine TL_freeze_osl ?_
    refine TL_append rfl rfl rfl rfl rfl slk (by simp only [List.length_cons, List.length_nil]; omega) ?_
    intro A10 c10
    refine TL_y rfl rfl (Y_assign rfl) ?_
    refine TL_nil ?_
    refine T_ret ?_
    rw [show ([0] : List Int) ++ bSeal e.order = bEntry e by unfold bEntry; rw [if_neg (by simp [h4]), h4, grp_truth]; rfl]
    exact RetG_1 (.inl rfl) rfl (ResV.tmp rfl) GivesTo.g (⟨A10, c10, rfl, rfl⟩)
theorem refEvent_spec {L : List HP} {A : Option Addr} {c : Nat} (x : EventD) (hr : rEvent x) (hk : SlK L (intR .i64) A c x.deps) : Fn Tryz.prog 90 #[.agg (List.toArray (eventC x (A, c)))] L (fun v L' => ∃ A' c', v = .slice A' (bEvent x).length c' ∧ L' = osl (intR .u8) 5 A' c' (bEvent x) :: L) := by
  have hl := bEvent_len hr
  obtain ⟨r1, r2, r3, r4, r5, r6, r7⟩ := hr
  have s4 := r4.2.2; have s6 := r6.2.2
  have a1 := bNum_len r1 (by decide); have a2 := bNum_len r2 (by decide); have a3 := bVec_len r3; have a4 := txt_len r4; have a5 := bNum_len r5 (by decide); have a6 := txt_len r6; have a7 := bNum_len r7 (by decide)
  refine Fn_enter Tryz.func90 rfl rfl rfl rfl ?_
  refine T_gives hk.lay ?_
  refine T_region ?_
  refine TL_box rfl rfl rfl ?_
  intro b1
  refine TL_y rfl rfl (Y_assign rfl) ?_
  refine TL_nil ?_
  refine T_region_draw _ [0, 1, 3, 7, 15, 0, 32, 96, 224, 511, 1023, 2047] [] [(0, true), (1, true), (2, true), (3, true), (5, true), (6, true), (7, true), (8, true), (4, false), (9, false), (10, false), (11, true)] (by kernel_rfl) (by decide +kernel) (Gives.refl _) ?_
  refine TF_y rfl rfl (Y_field_addr rfl) ?_
  refine TF_y rfl rfl (Y_field_addr rfl) ?_
  refine TF_y rfl rfl (Y_load rfl rfl) ?_
  refine TF_y rfl rfl (Y_conv rfl) ?_
  refine TF_name 7 (v' := .int .u64 ((x.dot.1.toNat : Nat) : Int)) rfl (by rw [nat_of r1 (by decide)]) ?_
  refine TF_y rfl rfl (Y_field_addr rfl) ?_
  refine TF_y rfl rfl (Y_field_addr rfl) ?_
  refine TF_y rfl rfl (Y_load rfl rfl) ?_
  refine TF_y rfl rfl (Y_conv rfl) ?_
  refine TF_name 12 (v' := .int .u64 ((x.dot.2.toNat : Nat) : Int)) rfl (by rw [nat_of r2 (by decide)]) ?_
  refine TF_anchor rfl ?_
  refine TL_call rfl rfl (refUint_spec x.dot.1.toNat (nat_lt r1 (by decide)) _) ?_
  rintro _ _ ⟨A8, c8, rfl, rfl⟩
  rw [show grp x.dot.1.toNat = bNum x.dot.1 from rfl]
  refine TF_end GivesTo.g ?_
  refine TF_anchor rfl ?_
  refine TL_call rfl rfl (refUint_spec x.dot.2.toNat (nat_lt r2 (by decide)) _) ?_
  rintro _ _ ⟨A13, c13, rfl, rfl⟩
  refine TL_freeze_osl ?_
  rw [show grp x.dot.2.toNat = bNum x.dot.2 from rfl]
  refine TF_end GivesTo.g ?_
  refine TF_anchor rfl ?_
  refine TL_append rfl rfl rfl rfl rfl slk (by omega) ?_
  intro A14 c14
  refine TF_end GivesTo.g ?_
  refine TF_y rfl rfl (Y_assign rfl) ?_
  refine TF_nil ?_
  refine T_region_draw (cells b1 (eventC x (A, c)) 85 :: []) [0, 0, 2, 6, 15, 0, 32, 127, 255, 511] [] [(0, true), (1, true), (2, true), (5, true), (6, true), (3, false), (4, false), (7, false), (8, false), (9, true)] (by kernel_rfl) (by decide +kernel) GivesTo.g ?_
  refine TF_y rfl rfl (Y_move rfl) ?_
  refine TF_y rfl rfl (Y_field_addr rfl) ?_
  refine TF_y rfl rfl (Y_load rfl rfl) ?_
  refine TF_y rfl rfl (Y_field_addr rfl) ?_
  refine TF_y rfl rfl (Y_load rfl rfl) ?_
  refine TF_anchor rfl ?_
  refine TL_call rfl rfl (refVec_spec r3 slk) ?_
  rintro _ _ ⟨A18, c18, rfl, rfl⟩
  refine TL_freeze_osl ?_
  refine TF_end GivesTo.g ?_
  refine TF_anchor rfl ?_
  refine TL_append rfl rfl rfl rfl rfl slk (by simp only [List.length_append]; omega) ?_
  intro A19 c19
  refine TF_end GivesTo.g ?_
  refine TF_anchor rfl ?_
  refine TL_call rfl rfl (refText_spec _ x.cart (by omega)) ?_
  rintro _ _ ⟨A22, c22, rfl, rfl⟩
  refine TL_freeze_osl ?_
  refine TF_end GivesTo.g ?_
  refine TF_anchor rfl ?_
  refine TL_append rfl rfl rfl rfl rfl slk (by simp only [List.length_append]; omega) ?_
  intro A23 c23
  refine TF_end GivesTo.g ?_
  refine TF_y rfl rfl (Y_assign rfl) ?_
  refine TF_nil ?_
  refine T_region_draw (cells b1 (eventC x (A, c)) 85 :: []) [0, 0, 2, 6, 14, 31, 0, 64, 255, 511, 1023] [] [(0, true), (1, true), (2, true), (3, true), (6, true), (7, true), (4, false), (5, false), (8, false), (9, false), (10, true)] (by kernel_rfl) (by decide +kernel) GivesTo.g ?_
  refine TF_y rfl rfl (Y_move rfl) ?_
  refine TF_y rfl rfl (Y_field_addr rfl) ?_
  refine TF_y rfl rfl (Y_load rfl rfl) ?_
  refine TF_y rfl rfl (Y_conv rfl) ?_
  refine TF_name 27 (v' := .int .u64 ((x.epoch.toNat : Nat) : Int)) rfl (by rw [nat_of r5 (by decide)]) ?_
  refine TF_y rfl rfl (Y_field_addr rfl) ?_
  refine TF_y rfl rfl (Y_load rfl rfl) ?_
  refine TF_anchor rfl ?_
  refine TL_call rfl rfl (refUint_spec x.epoch.toNat (nat_lt r5 (by decide)) _) ?_
  rintro _ _ ⟨A28, c28, rfl, rfl⟩
  refine TL_freeze_osl ?_
  rw [show grp x.epoch.toNat = bNum x.epoch from rfl]
  refine TF_end GivesTo.g ?_
  refine TF_anchor rfl ?_
  refine TL_append rfl rfl rfl rfl rfl slk (by simp only [List.length_append]; omega) ?_
  intro A29 c29
  refine TF_end GivesTo.g ?_
  refine TF_anchor rfl ?_
  refine TL_call rfl rfl (refText_spec _ x.sku (by omega)) ?_
  rintro _ _ ⟨A32, c32, rfl, rfl⟩
  refine TL_freeze_osl ?_
  refine TF_end GivesTo.g ?_
  refine TF_anchor rfl ?_
  refine TL_append rfl rfl rfl rfl rfl slk (by simp only [List.length_append]; omega) ?_
  intro A33 c33
  refine TF_end GivesTo.g ?_
  refine TF_y rfl rfl (Y_assign rfl) ?_
  refine TF_nil ?_
  refine T_region_draw (cells b1 (eventC x (A, c)) 85 :: []) [0, 0, 2, 6, 14, 31, 0, 64, 255, 511, 1023, 2047] [] [(0, true), (1, true), (2, true), (3, true), (6, true), (7, true), (4, false), (5, false), (8, false), (9, false), (10, false), (11, true)] (by kernel_rfl) (by decide +kernel) GivesTo.g ?_
  refine TF_y rfl rfl (Y_move rfl) ?_
  refine TF_y rfl rfl (Y_field_addr rfl) ?_
  refine TF_y rfl rfl (Y_load rfl rfl) ?_
  refine TF_y rfl rfl (Y_conv rfl) ?_
  refine TF_name 37 (v' := .int .u64 ((x.qty.toNat : Nat) : Int)) rfl (by rw [nat_of r7 (by decide)]) ?_
  refine TF_y rfl rfl (Y_field_addr rfl) ?_
  refine TF_y rfl rfl (Y_load rfl rfl) ?_
  refine TF_anchor rfl ?_
  refine TL_call rfl rfl (refUint_spec x.qty.toNat (nat_lt r7 (by decide)) _) ?_
  rintro _ _ ⟨A38, c38, rfl, rfl⟩
  refine TL_freeze_osl ?_
  rw [show grp x.qty.toNat = bNum x.qty from rfl]
  refine TF_end GivesTo.g ?_
  refine TF_anchor rfl ?_
  refine TL_append rfl rfl rfl rfl rfl slk (by simp only [List.length_append]; omega) ?_
  intro A39 c39
  refine TF_end GivesTo.g ?_
  refine TF_anchor rfl ?_
  refine TL_call rfl rfl (refTruth_spec _ x.clears) ?_
  rintro _ _ ⟨rfl, rfl⟩
  refine TF_end GivesTo.g ?_
  refine TF_anchor rfl ?_
  refine TL_build_slice rfl rfl rfl rfl rfl rfl ?_
  intro b43
  refine TL_osl (k := 1) (intR .u8) [if x.clears then 1 else 0] (one_u8 (by split <;> decide)) rfl (by decide) ?_
  refine TL_freeze_osl ?_
  refine TL_name 43 (v' := .slice (some ⟨b43, 0, none⟩) ([if x.clears then 1 else 0] : List Int).length 1) rfl rfl ?_
  refine TF_end GivesTo.g ?_
  refine TF_anchor rfl ?_
  refine TL_append rfl rfl rfl rfl rfl slk (by simp only [List.length_append, List.length_cons, List.length_nil]; omega) ?_
  intro A44 c44
  refine TF_end GivesTo.g ?_
  refine TF_y rfl rfl (Y_assign rfl) ?_
  refine TF_nil ?_
  refine T_ret ?_
  rw [show bNum x.dot.1 ++ bNum x.dot.2 ++ bVec x.deps ++ txt x.cart ++ bNum x.epoch ++ txt x.sku ++ bNum x.qty ++ [if x.clears then 1 else 0] = bEvent x by rw [← grp_truth]; simp [bEvent]]
  exact RetG_1 (.inl rfl) rfl (ResV.tmp rfl) GivesTo.g (⟨A44, c44, rfl, rfl⟩)
end Go.SL
set_option linter.unusedVariables false
set_option linter.unusedSimpArgs false
namespace Go.SL
open Go Go.Proofs
/-- What is written ahead of the votes. -/
def bHead (m : MsgD) : List Int := bNum m.kind ++ bNum m.frm ++ bNum m.to_ ++ bBal m.bal ++ bNum m.slot ++ bEntry m.en ++ bNum (m.voted.length : Int)
theorem bMsg_split (m : MsgD) : bMsg m = bHead m ++ bAll bVoted m.voted ++ bVec m.seen ++ bNum (m.events.length : Int) ++ bAll bEvent m.events ++ bNum m.time := by simp [bMsg, bHead]
theorem refMsgW_spec {L : List HP} (m : MsgD) (p : MsgP) (hr : rMsg m) (hk : MsgK L m p) : Fn Tryz.prog 59 #[msgV m p] L (fun v L' => ∃ A' c', v = .slice A' (bMsg m).length c' ∧ L' = osl (intR .u8) 5 A' c' (bMsg m) :: L) := by
  obtain ⟨r1, r2, r3, r4, r5, r6, ⟨r7, r8⟩, r9, ⟨ra, rb⟩, rc⟩ := hr
  have a1 := bNum_len r1 (by decide); have a2 := bNum_len r2 (by decide); have a3 := bNum_len r3 (by decide); have a4 := bBal_len r4; have a5 := bNum_len r5 (by decide); have a6 := bEntry_len r6
  have a7 := bNum_len (n := (m.voted.length : Int)) (most := 4096) (by unfold rNum; omega) (by decide)
  have a8 := bAll_len (b := bVoted) (k := 214) (l := m.voted) (fun x hx => bVoted_len (r8 x hx))
  have a9 := bVec_len r9
  have aa := bNum_len (n := (m.events.length : Int)) (most := 4096) (by unfold rNum; omega) (by decide)
  have ab := bAll_len (b := bEvent) (k := 214) (l := m.events) (fun x hx => bEvent_len (rb x hx))
  have ac := bNum_len rc (by decide)
  refine Fn_enter Tryz.func59 rfl rfl rfl rfl ?_
  refine T_gives (MsgK.lay hk) ?_
  refine T_region ?_
  refine TL_box rfl rfl rfl ?_
  intro b1
  refine TL_y rfl rfl (Y_assign rfl) ?_
  refine TL_nil ?_
  refine T_region_draw _ [0, 1, 3, 7, 0, 16, 48, 127, 255, 0, 512, 1536, 4095, 8191, 16383] [] [(0, true), (1, true), (2, true), (4, true), (5, true), (6, true), (9, true), (10, true), (11, true), (3, false), (7, false), (8, false), (12, false), (13, false), (14, true)] (by kernel_rfl) (by decide +kernel) (Gives.refl _) ?_
  refine TF_y rfl rfl (Y_field_addr rfl) ?_
  refine TF_y rfl rfl (Y_load rfl rfl) ?_
  refine TF_y rfl rfl (Y_conv rfl) ?_
  refine TF_name 8 (v' := .int .u64 ((m.kind.toNat : Nat) : Int)) rfl (by rw [nat_of r1 (by decide)]) ?_
  refine TF_y rfl rfl (Y_field_addr rfl) ?_
  refine TF_y rfl rfl (Y_load rfl rfl) ?_
  refine TF_y rfl rfl (Y_conv rfl) ?_
  refine TF_name 12 (v' := .int .u64 ((m.frm.toNat : Nat) : Int)) rfl (by rw [nat_of r2 (by decide)]) ?_
  refine TF_y rfl rfl (Y_field_addr rfl) ?_
  refine TF_y rfl rfl (Y_load rfl rfl) ?_
  refine TF_y rfl rfl (Y_conv rfl) ?_
  refine TF_name 17 (v' := .int .u64 ((m.to_.toNat : Nat) : Int)) rfl (by rw [nat_of r3 (by decide)]) ?_
  refine TF_anchor rfl ?_
  refine TL_call rfl rfl (refUint_spec m.kind.toNat (nat_lt r1 (by decide)) _) ?_
  rintro _ _ ⟨A9, c9, rfl, rfl⟩
  rw [show grp m.kind.toNat = bNum m.kind from rfl]
  refine TF_end GivesTo.g ?_
  refine TF_anchor rfl ?_
  refine TL_call rfl rfl (refUint_spec m.frm.toNat (nat_lt r2 (by decide)) _) ?_
  rintro _ _ ⟨A13, c13, rfl, rfl⟩
  refine TL_freeze_osl ?_
  rw [show grp m.frm.toNat = bNum m.frm from rfl]
  refine TF_end GivesTo.g ?_
  refine TF_anchor rfl ?_
  refine TL_append rfl rfl rfl rfl rfl slk (by omega) ?_
  intro A14 c14
  refine TF_end GivesTo.g ?_
  refine TF_anchor rfl ?_
  refine TL_call rfl rfl (refUint_spec m.to_.toNat (nat_lt r3 (by decide)) _) ?_
  rintro _ _ ⟨A18, c18, rfl, rfl⟩
  refine TL_freeze_osl ?_
  rw [show grp m.to_.toNat = bNum m.to_ from rfl]
  refine TF_end GivesTo.g ?_
  refine TF_anchor rfl ?_
  refine TL_append rfl rfl rfl rfl rfl slk (by simp only [List.length_append]; omega) ?_
  intro A19 c19
  refine TF_end GivesTo.g ?_
  refine TF_y rfl rfl (Y_assign rfl) ?_
  refine TF_nil ?_
  refine T_region_draw (cells b1 (msgC m p) 49 :: []) [0, 0, 2, 6, 15, 0, 32, 96, 255, 511, 0, 1024, 4095, 8191, 16383] [] [(0, true), (1, true), (2, true), (5, true), (6, true), (7, true), (10, true), (11, true), (3, false), (4, false), (8, false), (9, false), (12, false), (13, false), (14, true)] (by kernel_rfl) (by decide +kernel) GivesTo.g ?_
  refine TF_y rfl rfl (Y_move rfl) ?_
  refine TF_y rfl rfl (Y_field_addr rfl) ?_
  refine TF_y rfl rfl (Y_load_agg rfl rfl) ?_
  refine TF_y rfl rfl (Y_field_addr rfl) ?_
  refine TF_y rfl rfl (Y_load rfl rfl) ?_
  refine TF_y rfl rfl (Y_conv rfl) ?_
  refine TF_name 27 (v' := .int .u64 ((m.slot.toNat : Nat) : Int)) rfl (by rw [nat_of r5 (by decide)]) ?_
  refine TF_y rfl rfl (Y_field_addr rfl) ?_
  refine TF_y rfl rfl (Y_load_agg rfl rfl) ?_
  refine TF_anchor rfl ?_
  refine TL_call rfl rfl (refBallot_spec m.bal r4) ?_
  rintro _ _ ⟨A23, c23, rfl, rfl⟩
  refine TL_freeze_osl ?_
  refine TF_end GivesTo.g ?_
  refine TF_anchor rfl ?_
  refine TL_append rfl rfl rfl rfl rfl slk (by simp only [List.length_append]; omega) ?_
  intro A24 c24
  refine TF_end GivesTo.g ?_
  refine TF_anchor rfl ?_
  refine TL_call rfl rfl (refUint_spec m.slot.toNat (nat_lt r5 (by decide)) _) ?_
  rintro _ _ ⟨A28, c28, rfl, rfl⟩
  refine TL_freeze_osl ?_
  rw [show grp m.slot.toNat = bNum m.slot from rfl]
  refine TF_end GivesTo.g ?_
  refine TF_anchor rfl ?_
  refine TL_append rfl rfl rfl rfl rfl slk (by simp only [List.length_append]; omega) ?_
  intro A29 c29
  refine TF_end GivesTo.g ?_
  refine TF_anchor rfl ?_
  refine TL_call rfl rfl (refEntry_spec m.en r6 slk) ?_
  rintro _ _ ⟨A32, c32, rfl, rfl⟩
  refine TL_freeze_osl ?_
  refine TF_end GivesTo.g ?_
  refine TF_anchor rfl ?_
  refine TL_append rfl rfl rfl rfl rfl slk (by simp only [List.length_append]; omega) ?_
  intro A33 c33
  refine TF_end GivesTo.g ?_
  refine TF_y rfl rfl (Y_assign rfl) ?_
  refine TF_nil ?_
  refine T_region ?_
  refine TL_y rfl rfl (Y_move rfl) ?_
  refine TL_y rfl rfl (Y_field_addr rfl) ?_
  refine TL_y rfl rfl (Y_load rfl rfl) ?_
  refine TL_y rfl rfl (Y_len rfl) ?_
  refine TL_y rfl rfl (Y_conv rfl) ?_
  refine TL_name 38 (v' := .int .u64 ((m.voted.length : Nat) : Int)) rfl (by rw [u64_small (by omega)]) ?_
  refine TL_call rfl rfl (refUint_spec m.voted.length (by omega) _) ?_
  rintro _ _ ⟨A39, c39, rfl, rfl⟩
  refine TL_freeze_osl ?_
  rw [show grp m.voted.length = bNum (m.voted.length : Int) by simp [bNum]]
  refine TL_append rfl rfl rfl rfl rfl slk (by simp only [List.length_append]; omega) ?_
  intro A40 c40
  rw [show bNum m.kind ++ bNum m.frm ++ bNum m.to_ ++ bBal m.bal ++ bNum m.slot ++ bEntry m.en ++ bNum (m.voted.length : Int) = bHead m ++ bAll bVoted (m.voted.take 0) by simp [bHead, bAll]]
  have ah : (bHead m).length ≤ 254 := by unfold bHead; simp only [List.length_append]; omega
  refine TL_y rfl rfl (Y_assign rfl) ?_
  refine TL_nil ?_
  refine T_seq ?_
  refine T_region ?_
  refine TL_y rfl rfl (Y_assign rfl) ?_
  refine TL_nil ?_
  refine T_block ?_
  refine T_loopK (σ := LpSt1) [1] (fun g => g.i ≤ m.voted.length) (fun g kv => (4, .int .i64 (g.i : Int)) :: (3, .slice g.A (bHead m ++ bAll bVoted (m.voted.take g.i)).length g.c) :: kv) (fun g => osl (intR .u8) 5 g.A g.c (bHead m ++ bAll bVoted (m.voted.take g.i)) :: cells b1 (msgC m p) 49 :: mL m p L) (fun g => m.voted.length - g.i) (⟨0, A40, c40⟩) rfl (Nat.zero_le _) (GivesTo.g) (sub_cons rfl (sub_cons rfl (sub_cons rfl (sub_nil)))) ?_
  rintro ⟨i, A2, c2⟩ hi
  dsimp only at hi ⊢
  refine T_seq ?_
  refine T_region ?_
  refine TL_y rfl rfl (Y_move rfl) ?_
  refine TL_y rfl rfl (Y_field_addr rfl) ?_
  refine TL_y rfl rfl (Y_load rfl rfl) ?_
  refine TL_y rfl rfl (Y_len rfl) ?_
  refine TL_y rfl rfl (Y_lt rfl rfl) ?_
  refine TL_nil ?_
  refine T_if rfl (fun h45 => ?_) (fun h45 => ?_)
  · refine T_skip ?_
    refine thenS_normal ?_
    refine T_seq ?_
    refine T_block ?_
    obtain ⟨u, hu⟩ : ∃ u, m.voted[i]? = some u := ⟨_, List.getElem?_eq_getElem (by omega)⟩
    have hru := r8 u (List.mem_of_getElem? hu)
    have q1 := bNum_len hru.1 (by decide)
    have q2 := bBal_len hru.2.1
    have q3 := bEntry_len hru.2.2
    have hla := bAll_len (b := bVoted) (k := 214) (l := m.voted.take i) (fun x hx => bVoted_len (r8 x (List.mem_of_mem_take hx)))
    have hlt : (m.voted.take i).length ≤ 4096 := by rw [List.length_take]; omega
    refine T_at (slk (A := p.voted.1) (c := p.voted.2)) hu fun bq oq lq haq => ?_
    refine T_ex fun pq okq => ?_
    simp only [List.cons_append, List.nil_append]
    refine T_region_draw_last (cells b1 (msgC m p) 49 :: row bq oq (votedC u pq) :: []) [0, 0, 2, 0, 14, 30, 62, 126, 254, 511, 0, 1024, 0, 7168, 15360, 31744, 65535, 131071, 0, 262144, 0, 1835008, 3932160, 8126464, 16777215, 33554431, 67108863] [] [(0, true), (1, true), (2, true), (3, true), (4, true), (5, true), (6, true), (7, true), (10, true), (11, true), (12, true), (13, true), (14, true), (15, true), (18, true), (19, true), (20, true), (21, true), (22, true), (23, true), (8, false), (9, false), (16, false), (17, false), (24, false), (25, false), (26, true)] (by kernel_rfl) (by decide +kernel) GivesTo.g ?_
    refine TF_y rfl rfl (Y_move rfl) ?_
    refine TF_y rfl rfl (Y_field_addr rfl) ?_
    refine TF_y rfl rfl (Y_load rfl rfl) ?_
    refine TF_y rfl rfl (Y_move rfl) ?_
    refine TF_y rfl rfl (Y_index_at rfl rfl (by omega) haq) ?_
    refine TF_y rfl rfl (Y_field_addr2 rfl) ?_
    refine TF_y rfl rfl (Y_load_row rfl rfl) ?_
    refine TF_y rfl rfl (Y_conv rfl) ?_
    refine TF_name 55 (v' := .int .u64 ((u.slot.toNat : Nat) : Int)) rfl (by rw [nat_of hru.1 (by decide)]) ?_
    refine TF_y rfl rfl (Y_field_addr rfl) ?_
    refine TF_y rfl rfl (Y_load rfl rfl) ?_
    refine TF_y rfl rfl (Y_move rfl) ?_
    refine TF_y rfl rfl (Y_index_at rfl rfl (by omega) haq) ?_
    refine TF_y rfl rfl (Y_field_addr2 rfl) ?_
    refine TF_y rfl rfl (Y_load_row_agg (vs := [.int .i64 u.bal.1, .int .i64 u.bal.2]) rfl rfl) ?_
    refine TF_y rfl rfl (Y_field_addr rfl) ?_
    refine TF_y rfl rfl (Y_load rfl rfl) ?_
    refine TF_y rfl rfl (Y_move rfl) ?_
    refine TF_y rfl rfl (Y_index_at rfl rfl (by omega) haq) ?_
    refine TF_y rfl rfl (Y_field_addr2 rfl) ?_
    refine TF_y rfl rfl (Y_load_row_agg (vs := entryC u.en pq) rfl rfl) ?_
    refine TF_anchor rfl ?_
    refine TL_call rfl rfl (refUint_spec u.slot.toNat (nat_lt hru.1 (by decide)) _) ?_
    rintro _ _ ⟨A56, c56, rfl, rfl⟩
    refine TL_freeze_osl ?_
    rw [show grp u.slot.toNat = bNum u.slot from rfl]
    refine TF_end GivesTo.g ?_
    refine TF_anchor rfl ?_
    refine TL_append rfl rfl rfl rfl rfl slk (by simp only [List.length_append]; omega) ?_
    intro A57 c57
    refine TF_end GivesTo.g ?_
    refine TF_anchor rfl ?_
    refine TL_call rfl rfl (refBallot_spec u.bal hru.2.1) ?_
    rintro _ _ ⟨A64, c64, rfl, rfl⟩
    refine TL_freeze_osl ?_
    refine TF_end GivesTo.g ?_
    refine TF_anchor rfl ?_
    refine TL_append rfl rfl rfl rfl rfl slk (by simp only [List.length_append]; omega) ?_
    intro A65 c65
    refine TF_end GivesTo.g ?_
    refine TF_anchor rfl ?_
    refine TL_call rfl rfl (refEntry_spec u.en hru.2.2 slk) ?_
    rintro _ _ ⟨A72, c72, rfl, rfl⟩
    refine TL_freeze_osl ?_
    refine TF_end GivesTo.g ?_
    refine TF_anchor rfl ?_
    refine TL_append rfl rfl rfl rfl rfl slk (by simp only [List.length_append]; omega) ?_
    intro A73 c73
    rw [show bHead m ++ bAll bVoted (m.voted.take i) ++ bNum u.slot ++ bBal u.bal ++ bEntry u.en = bHead m ++ bAll bVoted (m.voted.take (i + 1)) by rw [take_at hu, bAll_snoc]; simp [bVoted]]
    refine TF_end GivesTo.g ?_
    refine TF_y rfl rfl (Y_assign rfl) ?_
    refine TF_nil ?_
    refine inB_normal ?_
    refine thenS_normal ?_
    refine T_region_last ?_
    refine TL_y rfl rfl (Y_move rfl) ?_
    refine TL_y rfl rfl (Y_add rfl rfl (by omega)) ?_
    refine TL_name 47 (v' := .int .i64 ((i + 1 : Nat) : Int)) rfl (rfl) ?_
    refine TL_y rfl rfl (Y_assign rfl) ?_
    refine TL_nil ?_
    refine thenS_normal ?_
    exact ⟨⟨i + 1, A73, c73⟩, (by simp only; omega), by simp only; omega, holds_to (sub_cons rfl (sub_cons rfl (sub_cons rfl (sub_nil)))) GivesTo.g⟩
  · refine T_exit ?_
    refine thenS_exit ?_
    refine thenS_exit ?_
    refine inB_hit ?_
    refine thenS_normal ?_
    have e0 : m.voted.take i = m.voted := List.take_of_length_le (by omega)
    rw [e0]
    refine T_region_draw (cells b1 (msgC m p) 49 :: []) [0, 0, 2, 6, 15, 0, 32, 96, 224, 511, 1023, 2047] [] [(0, true), (1, true), (2, true), (5, true), (6, true), (7, true), (8, true), (3, false), (4, false), (9, false), (10, false), (11, true)] (by kernel_rfl) (by decide +kernel) GivesTo.g ?_
    refine TF_y rfl rfl (Y_move rfl) ?_
    refine TF_y rfl rfl (Y_field_addr rfl) ?_
    refine TF_y rfl rfl (Y_load rfl rfl) ?_
    refine TF_y rfl rfl (Y_field_addr rfl) ?_
    refine TF_y rfl rfl (Y_load rfl rfl) ?_
    refine TF_y rfl rfl (Y_len rfl) ?_
    refine TF_y rfl rfl (Y_conv rfl) ?_
    refine TF_name 82 (v' := .int .u64 ((m.events.length : Nat) : Int)) rfl (by rw [u64_small (by omega)]) ?_
    refine TF_anchor rfl ?_
    refine TL_call rfl rfl (refVec_spec r9 slk) ?_
    rintro _ _ ⟨A77, c77, rfl, rfl⟩
    refine TL_freeze_osl ?_
    refine TF_end GivesTo.g ?_
    refine TF_anchor rfl ?_
    refine TL_append rfl rfl rfl rfl rfl slk (by simp only [List.length_append]; omega) ?_
    intro A78 c78
    refine TF_end GivesTo.g ?_
    refine TF_anchor rfl ?_
    refine TL_call rfl rfl (refUint_spec m.events.length (by omega) _) ?_
    rintro _ _ ⟨A83, c83, rfl, rfl⟩
    refine TL_freeze_osl ?_
    rw [show grp m.events.length = bNum (m.events.length : Int) by simp [bNum]]
    refine TF_end GivesTo.g ?_
    refine TF_anchor rfl ?_
    refine TL_append rfl rfl rfl rfl rfl slk (by simp only [List.length_append]; omega) ?_
    intro A84 c84
    rw [show bHead m ++ bAll bVoted m.voted ++ bVec m.seen ++ bNum (m.events.length : Int) = bHead m ++ bAll bVoted m.voted ++ bVec m.seen ++ bNum (m.events.length : Int) ++ bAll bEvent (m.events.take 0) by simp [bAll]]
    refine TF_end GivesTo.g ?_
    refine TF_y rfl rfl (Y_assign rfl) ?_
    refine TF_nil ?_
    refine T_seq ?_
    refine T_region ?_
    refine TL_y rfl rfl (Y_assign rfl) ?_
    refine TL_nil ?_
    refine T_block ?_
    refine T_loopK (σ := LpSt1) [1] (fun g => g.i ≤ m.events.length) (fun g kv => (5, .int .i64 (g.i : Int)) :: (3, .slice g.A (bHead m ++ bAll bVoted m.voted ++ bVec m.seen ++ bNum (m.events.length : Int) ++ bAll bEvent (m.events.take g.i)).length g.c) :: kv) (fun g => osl (intR .u8) 5 g.A g.c (bHead m ++ bAll bVoted m.voted ++ bVec m.seen ++ bNum (m.events.length : Int) ++ bAll bEvent (m.events.take g.i)) :: cells b1 (msgC m p) 49 :: mL m p L) (fun g => m.events.length - g.i) (⟨0, A84, c84⟩) rfl (Nat.zero_le _) (GivesTo.g) (sub_cons rfl (sub_cons rfl (sub_cons rfl (sub_nil)))) ?_
    rintro ⟨j, A3, c3⟩ hj
    dsimp only at hj ⊢
    refine T_seq ?_
    refine T_region ?_
    refine TL_y rfl rfl (Y_move rfl) ?_
    refine TL_y rfl rfl (Y_field_addr rfl) ?_
    refine TL_y rfl rfl (Y_load rfl rfl) ?_
    refine TL_y rfl rfl (Y_len rfl) ?_
    refine TL_y rfl rfl (Y_lt rfl rfl) ?_
    refine TL_nil ?_
    refine T_if rfl (fun h89 => ?_) (fun h89 => ?_)
    · refine T_skip ?_
      refine thenS_normal ?_
      refine T_seq ?_
      refine T_block ?_
      refine T_region_last ?_
      refine TL_y rfl rfl (Y_move rfl) ?_
      refine TL_y rfl rfl (Y_field_addr rfl) ?_
      refine TL_y rfl rfl (Y_load rfl rfl) ?_
      refine TL_y rfl rfl (Y_move rfl) ?_
      obtain ⟨u, hu⟩ : ∃ u, m.events[j]? = some u := ⟨_, List.getElem?_eq_getElem (by omega)⟩
      have hru := rb u (List.mem_of_getElem? hu)
      have q1 := bEvent_len hru
      have hla := bAll_len (b := bEvent) (k := 214) (l := m.events.take j) (fun x hx => bEvent_len (rb x (List.mem_of_mem_take hx)))
      have hlt : (m.events.take j).length ≤ 4096 := by rw [List.length_take]; omega
      refine TL_index_n rfl rfl rfl (rfl) (sln) (hu) ?_
      intro bn96 on96 hA96 hk96
      have hu96 := hu
      refine TL_load_nx rfl rfl hk96 hu96 (fun _ => rfl) ?_
      intro p97 ok97
      simp only [List.cons_append, List.nil_append]
      refine TL_call rfl rfl (refEvent_spec u hru slk) ?_
      rintro _ _ ⟨A98, c98, rfl, rfl⟩
      refine TL_freeze_osl ?_
      refine TL_append rfl rfl rfl rfl rfl slk (by simp only [List.length_append]; omega) ?_
      intro A99 c99
      rw [List.append_assoc _ (bAll bEvent (m.events.take j)), show bAll bEvent (m.events.take j) ++ bEvent u = bAll bEvent (m.events.take (j + 1)) by rw [take_at hu, bAll_snoc]]
      refine TL_y rfl rfl (Y_assign rfl) ?_
      refine TL_nil ?_
      refine inB_normal ?_
      refine thenS_normal ?_
      refine T_region_last ?_
      refine TL_y rfl rfl (Y_move rfl) ?_
      refine TL_y rfl rfl (Y_add rfl rfl (by omega)) ?_
      refine TL_name 91 (v' := .int .i64 ((j + 1 : Nat) : Int)) rfl (rfl) ?_
      refine TL_y rfl rfl (Y_assign rfl) ?_
      refine TL_nil ?_
      refine thenS_normal ?_
      exact ⟨⟨j + 1, A99, c99⟩, (by simp only; omega), by simp only; omega, holds_to (sub_cons rfl (sub_cons rfl (sub_cons rfl (sub_nil)))) GivesTo.g⟩
    · refine T_exit ?_
      refine thenS_exit ?_
      refine thenS_exit ?_
      refine inB_hit ?_
      refine thenS_normal ?_
      have e1 : m.events.take j = m.events := List.take_of_length_le (by omega)
      rw [e1]
      refine T_region ?_
      refine TL_y rfl rfl (Y_move rfl) ?_
      refine TL_y rfl rfl (Y_field_addr rfl) ?_
      refine TL_y rfl rfl (Y_load rfl rfl) ?_
      refine TL_y rfl rfl (Y_conv rfl) ?_
      refine TL_name 103 (v' := .int .u64 ((m.time.toNat : Nat) : Int)) rfl (by rw [nat_of rc (by decide)]) ?_
      refine TL_call rfl rfl (refUint_spec m.time.toNat (nat_lt rc (by decide)) _) ?_
      rintro _ _ ⟨A104, c104, rfl, rfl⟩
      refine TL_freeze_osl ?_
      rw [show grp m.time.toNat = bNum m.time from rfl]
      refine TL_append rfl rfl rfl rfl rfl slk (by simp only [List.length_append]; omega) ?_
      intro A105 c105
      refine TL_y rfl rfl (Y_assign rfl) ?_
      refine TL_nil ?_
      refine T_ret ?_
      rw [← bMsg_split]
      exact RetG_1 (.inl rfl) rfl (ResV.tmp rfl) GivesTo.g (⟨A105, c105, rfl, rfl⟩)
theorem short_big (L : List HP) (A : Option Addr) (k c : Nat) (h : 65536 < k) : Fn Tryz.prog 58 #[.slice A k c] L (fun v L' => v = .tuple #[.slice none 0 0, .int .i64 3] ∧ L' = L) := by
  refine Fn_enter Tryz.func58 rfl rfl rfl rfl ?_
  refine T_region ?_
  refine TL_y rfl rfl (Y_assign rfl) ?_
  refine TL_y rfl rfl (Y_assign rfl) ?_
  refine TL_nil ?_
  refine T_seq ?_
  refine T_region ?_
  refine TL_y rfl rfl (Y_move rfl) ?_
  refine TL_y rfl rfl (Y_len rfl) ?_
  refine TL_y rfl rfl (Y_gt rfl rfl) ?_
  refine TL_name 6 (v' := .bool true) rfl (congrArg Value.bool (decide_eq_true (by omega))) ?_
  refine TL_nil ?_
  refine T_cond_true rfl ?_
  refine T_region ?_
  refine TL_y rfl rfl (Y_assign rfl) ?_
  refine TL_y rfl rfl (Y_assign rfl) ?_
  refine TL_nil ?_
  refine T_ret ?_
  refine thenS_ret ?_
  exact RetG_2 (.inl rfl) rfl (ResV.tmp rfl) (ResV.tmp rfl) GivesTo.g (⟨rfl, rfl⟩)
theorem short_ok (L : List HP) (A : Option Addr) (k c : Nat) (h : ¬ 65536 < k) : Fn Tryz.prog 58 #[.slice A k c] L (fun v L' => v = .tuple #[.slice A k c, .int .i64 0] ∧ L' = L) := by
  refine Fn_enter Tryz.func58 rfl rfl rfl rfl ?_
  refine T_region ?_
  refine TL_y rfl rfl (Y_assign rfl) ?_
  refine TL_y rfl rfl (Y_assign rfl) ?_
  refine TL_nil ?_
  refine T_seq ?_
  refine T_region ?_
  refine TL_y rfl rfl (Y_move rfl) ?_
  refine TL_y rfl rfl (Y_len rfl) ?_
  refine TL_y rfl rfl (Y_gt rfl rfl) ?_
  refine TL_name 6 (v' := .bool false) rfl (congrArg Value.bool (decide_eq_false (by omega))) ?_
  refine TL_nil ?_
  refine T_cond_false rfl ?_
  refine T_skip ?_
  refine thenS_normal ?_
  refine T_region ?_
  refine TL_y rfl rfl (Y_move rfl) ?_
  refine TL_y rfl rfl (Y_assign rfl) ?_
  refine TL_y rfl rfl (Y_assign rfl) ?_
  refine TL_nil ?_
  refine T_ret ?_
  exact RetG_2 (.inl rfl) rfl (ResV.tmp rfl) (ResV.tmp rfl) GivesTo.g (⟨rfl, rfl⟩)
theorem refMsg_spec {L : List HP} (m : MsgD) (p : MsgP) (hx : MsgOk m) (hk : MsgK L m p) : Fn Tryz.prog 31 #[msgV m p] L (fun v L' => outW (wMsg m ([], false)) v L L') := by
  refine Fn_enter Tryz.func31 rfl rfl rfl rfl ?_
  refine T_gives (MsgK.lay hk) ?_
  refine T_region ?_
  refine TL_box rfl rfl rfl ?_
  intro b1
  refine TL_y rfl rfl (Y_assign rfl) ?_
  refine TL_y rfl rfl (Y_assign rfl) ?_
  refine TL_nil ?_
  refine T_seq ?_
  refine T_region ?_
  refine TL_y rfl rfl (Y_load_agg rfl rfl) ?_
  refine TL_call rfl rfl (rightMsg_spec m p hx ⟨slk, slk, slk, slk⟩) ?_
  rintro _ _ ⟨rfl, rfl⟩
  refine TL_y rfl rfl (Y_not_d rfl) ?_
  refine TL_nil ?_
  refine T_if rfl (fun h6 => ?_) (fun h6 => ?_)
  · have hb : (wMsg m ([], false)).2 = true := by cases e : (wMsg m ([], false)).2 with | true => rfl | false => exact absurd (wMsg_bad.1 e).2 h6
    refine T_region ?_
    refine TL_y rfl rfl (Y_assign rfl) ?_
    refine TL_y rfl rfl (Y_assign rfl) ?_
    refine TL_nil ?_
    refine T_ret ?_
    refine thenS_ret ?_
    have e1 : outB (wMsg m ([], false)) = [] := by simp [outB, hb]
    have e2 : outE (wMsg m ([], false)) = 1 := by simp [outE, hb]
    unfold outW
    rw [e1, e2]
    refine RetQ.gives (osl_nil (intR .u8) 5 none _) ?_
    exact RetG_2 (.inl rfl) rfl (ResV.tmp rfl) (ResV.tmp rfl) GivesTo.g (⟨none, 0, rfl, rfl⟩)
  · have hr : rMsg m := Classical.not_not.1 h6
    have hw := wMsg_ok (s := ([], false)) rfl hr
    rw [List.nil_append] at hw
    refine T_skip ?_
    refine thenS_normal ?_
    refine T_region ?_
    refine TL_y rfl rfl (Y_load_agg rfl rfl) ?_
    refine TL_call rfl rfl (refMsgW_spec m p hr ⟨slk, slk, slk, slk⟩) ?_
    rintro _ _ ⟨A8, c8, rfl, rfl⟩
    refine Classical.byCases (p := 65536 < (bMsg m).length) (fun hlen => TL_call rfl rfl (short_big _ _ _ _ hlen) ?_) (fun hlen => TL_call rfl rfl (short_ok _ _ _ _ hlen) ?_)
    · rintro _ _ ⟨rfl, rfl⟩
      refine TL_y rfl rfl (Y_extract rfl rfl) ?_
      refine TL_y rfl rfl (Y_extract rfl rfl) ?_
      refine TL_y rfl rfl (Y_assign rfl) ?_
      refine TL_y rfl rfl (Y_assign rfl) ?_
      refine TL_nil ?_
      refine T_ret ?_
      have e1 : outB (wMsg m ([], false)) = [] := by rw [hw]; simp [outB, hlen]
      have e2 : outE (wMsg m ([], false)) = 3 := by rw [hw]; simp [outE, hlen]
      unfold outW
      rw [e1, e2]
      refine RetQ.gives (osl_nil (intR .u8) 5 none _) ?_
      exact RetG_2 (.inl rfl) rfl (ResV.tmp rfl) (ResV.tmp rfl) GivesTo.g (⟨none, 0, rfl, rfl⟩)
    · rintro _ _ ⟨rfl, rfl⟩
      refine TL_y rfl rfl (Y_extract rfl rfl) ?_
      refine TL_y rfl rfl (Y_extract rfl rfl) ?_
      refine TL_y rfl rfl (Y_assign rfl) ?_
      refine TL_y rfl rfl (Y_assign rfl) ?_
      refine TL_nil ?_
      refine T_ret ?_
      have e1 : outB (wMsg m ([], false)) = bMsg m := by rw [hw, outB, if_neg (by simp; omega)]
      have e2 : outE (wMsg m ([], false)) = 0 := by rw [hw, outE, if_neg (by simp), if_neg hlen]
      unfold outW
      rw [e1, e2]
      exact RetG_2 (.inl rfl) rfl (ResV.tmp rfl) (ResV.tmp rfl) GivesTo.g (⟨A8, c8, rfl, rfl⟩)
end Go.SL
set_option linter.unusedVariables false
set_option linter.unusedSimpArgs false
namespace Go.SL
open Go Go.Proofs
theorem readMsg3_spec {L : List HP} {A : Option Addr} {c : Nat} {bs : List Int} (hk : SlK L (intR .u8) A c bs) (hb : bs.length ≤ 140737488355328) : Fn Tryz.prog 13 #[.slice A bs.length c] L (fun v L' => ∃ m p e, v = .tuple #[msgV m p, .int .i64 e] ∧ L' = mL m p L ∧ MsgOk m ∧ MsgRes bs m e ∧ (e = 10 → m = msg0)) := by
  refine Fn_enter Tryz.func13 rfl rfl rfl rfl ?_
  refine T_gives hk.lay ?_
  refine T_region ?_
  refine TL_alloc rfl rfl ?_
  intro b2
  refine TL_y rfl rfl (Y_assign rfl) ?_
  refine TL_nil ?_
  refine T_region ?_
  refine TL_y rfl rfl (Y_move rfl) ?_
  refine TL_y rfl rfl (Y_build rfl rfl) ?_
  refine TL_box rfl rfl rfl ?_
  intro b8
  refine TL_y rfl rfl (Y_assign rfl) ?_
  refine TL_nil ?_
  refine T_region ?_
  refine TL_y rfl rfl (Y_move rfl) ?_
  refine TL_gives (rdr_close b8 (rs0 bs) (SlK.tail slk)) ?_
  refine TL_call rfl rfl (rmsg_spec (by show 0 + bs.length ≤ _; omega)) ?_
  rintro _ _ ⟨x, p, s1, rfl, rfl, h⟩
  refine TL_alloc rfl rfl ?_
  intro b5
  refine TL_store rfl rfl rfl rfl rfl rfl ?_
  refine TL_nil ?_
  refine T_seq ?_
  refine T_pullk b8 ?_
  refine T_rdr fun Ar cr => ?_
  refine T_region ?_
  refine TL_y rfl rfl (Y_move rfl) ?_
  refine TL_y rfl rfl (Y_nil_check rfl) ?_
  refine TL_y rfl rfl (Y_field_addr rfl) ?_
  refine TL_y rfl rfl (Y_load rfl rfl) ?_
  refine TL_y rfl rfl (Y_move rfl) ?_
  refine TL_split 15 rfl (fun h15 => ?_) (fun h15 => ?_)
  · refine TL_gskip rfl rfl rfl rfl ?_
    refine TL_gskip rfl rfl rfl rfl ?_
    refine TL_gskip rfl rfl rfl rfl ?_
    refine TL_gskip rfl rfl rfl rfl ?_
    refine TL_gskip rfl rfl rfl rfl ?_
    refine TL_gskip rfl rfl rfl rfl ?_
    refine TL_y rfl rfl (Y_pick_t rfl rfl) ?_
    refine TL_y rfl rfl (Y_move rfl) ?_
    refine TL_gskip rfl rfl rfl rfl ?_
    refine TL_gskip rfl rfl rfl rfl ?_
    refine TL_gskip rfl rfl rfl rfl ?_
    refine TL_y rfl rfl (Y_pick_t rfl rfl) ?_
    refine TL_nil ?_
    refine T_cond_true rfl ?_
    refine T_region ?_
    refine TL_y rfl rfl (Y_build rfl rfl) ?_
    refine TL_store rfl rfl rfl rfl rfl rfl ?_
    refine TL_y rfl rfl (Y_assign rfl) ?_
    refine TL_nil ?_
    refine T_ret ?_
    refine thenS_ret ?_
    have hres : MsgRes bs msg0 10 := ⟨x, s1, h, .inr ⟨rfl, .inl h15⟩⟩
    refine RetQ.gives (mL_nil (m := msg0) rfl rfl rfl rfl) ?_
    exact RetG_2 (.inl rfl) rfl (ResV.agg rfl rfl) (ResV.tmp rfl) GivesTo.g (⟨msg0, mP0, 10, rfl, rfl, msg0_ok, hres, fun _ => rfl⟩)
  · refine TL_grun rfl rfl ?_
    refine TL_y rfl rfl (Y_move rfl) ?_
    refine TL_grun rfl rfl ?_
    refine TL_y rfl rfl (Y_nil_check rfl) ?_
    refine TL_grun rfl rfl ?_
    refine TL_y rfl rfl (Y_field_addr rfl) ?_
    refine TL_grun rfl rfl ?_
    refine TL_y rfl rfl (Y_load rfl rfl) ?_
    refine TL_grun rfl rfl ?_
    refine TL_y rfl rfl (Y_len rfl) ?_
    refine TL_grun rfl rfl ?_
    refine TL_y rfl rfl (Y_gt rfl rfl) ?_
    refine TL_y rfl rfl (Y_pick_f rfl rfl) ?_
    refine TL_y rfl rfl (Y_move rfl) ?_
    refine TL_splitd 23 rfl (fun h23 => ?_) (fun h23 => ?_)
    · refine TL_gskip rfl rfl rfl rfl ?_
      refine TL_gskip rfl rfl rfl rfl ?_
      refine TL_gskip rfl rfl rfl rfl ?_
      refine TL_y rfl rfl (Y_pick_t rfl rfl) ?_
      refine TL_nil ?_
      refine T_cond_true rfl ?_
      refine T_region ?_
      refine TL_y rfl rfl (Y_build rfl rfl) ?_
      refine TL_store rfl rfl rfl rfl rfl rfl ?_
      refine TL_y rfl rfl (Y_assign rfl) ?_
      refine TL_nil ?_
      refine T_ret ?_
      refine thenS_ret ?_
      have hres : MsgRes bs msg0 10 := ⟨x, s1, h, .inr ⟨rfl, .inr (.inl (by intro e; rw [e] at h23; simp at h23))⟩⟩
      refine RetQ.gives (mL_nil (m := msg0) rfl rfl rfl rfl) ?_
      exact RetG_2 (.inl rfl) rfl (ResV.agg rfl rfl) (ResV.tmp rfl) GivesTo.g (⟨msg0, mP0, 10, rfl, rfl, msg0_ok, hres, fun _ => rfl⟩)
    · refine TL_grun rfl rfl ?_
      refine TL_y rfl rfl (Y_move rfl) ?_
      refine TL_grun rfl rfl ?_
      refine TL_y rfl rfl (Y_len rfl) ?_
      refine TL_grun rfl rfl ?_
      refine TL_y rfl rfl (Y_gt rfl rfl) ?_
      refine TL_y rfl rfl (Y_pick_f rfl rfl) ?_
      refine TL_nil ?_
      refine T_if rfl (fun h27 => ?_) (fun h27 => ?_)
      · refine T_region ?_
        refine TL_y rfl rfl (Y_build rfl rfl) ?_
        refine TL_store rfl rfl rfl rfl rfl rfl ?_
        refine TL_y rfl rfl (Y_assign rfl) ?_
        refine TL_nil ?_
        refine T_ret ?_
        refine thenS_ret ?_
        have hres : MsgRes bs msg0 10 := ⟨x, s1, h, .inr ⟨rfl, .inr (.inr (by omega))⟩⟩
        refine RetQ.gives (mL_nil (m := msg0) rfl rfl rfl rfl) ?_
        exact RetG_2 (.inl rfl) rfl (ResV.agg rfl rfl) (ResV.tmp rfl) GivesTo.g (⟨msg0, mP0, 10, rfl, rfl, msg0_ok, hres, fun _ => rfl⟩)
      · refine T_skip ?_
        refine thenS_normal ?_
        refine T_region ?_
        refine TL_y rfl rfl (Y_load_agg rfl rfl) ?_
        refine TL_store rfl rfl rfl rfl rfl rfl ?_
        refine TL_y rfl rfl (Y_assign rfl) ?_
        refine TL_nil ?_
        refine T_ret ?_
        exact RetG_2 (.inl rfl) rfl (ResV.agg rfl rfl) (ResV.tmp rfl) GivesTo.g (⟨x, p, 0, rfl, rfl, h.iv, ⟨x, s1, h, .inl ⟨rfl, rfl, h15, List.eq_nil_of_length_eq_zero (by omega), by omega⟩⟩, fun e => absurd e (by decide)⟩)
/-! ### How much a right message writes -/
theorem name_32 {s : ByteArray} (h : isName s) : s.size ≤ 32 := by unfold isName at h; omega
theorem cSeal_r {x : OrderD} (h : rSeal x) : cSeal x ≤ 194 := by
  have h1 := name_32 h.1
  have h2 := name_32 h.2.1
  have h3 := h.2.2.2.2.1
  unfold cSeal; omega
theorem cEntry_r {e : EntryD} (h : rEntry e) : cSeal e.order ≤ 194 := by
  unfold rEntry at h
  split at h
  · unfold someSeal at h
    simp only [Bool.or_eq_false_iff, decide_eq_false_iff_not, ne_eq, Classical.not_not] at h
    obtain ⟨⟨⟨h1, h2⟩, _⟩, h4⟩ := h
    have e1 : e.order.token.size = 0 := by rw [h1]; rfl
    have e2 : e.order.cart.size = 0 := by rw [h2]; rfl
    unfold cSeal; omega
  · exact cSeal_r h
theorem sum_bound {α : Type} {μ : α → Nat} {k : Nat} : ∀ {l : List α}, (∀ x ∈ l, μ x ≤ k) → (l.map μ).sum ≤ k * l.length
  | [], _ => by simp
  | x :: l, h => by
    have h1 := h x List.mem_cons_self
    have h2 := sum_bound fun y hy => h y (List.mem_cons_of_mem _ hy)
    rw [List.map_cons, List.sum_cons, List.length_cons, Nat.mul_add]; omega
theorem cMsg_r {m : MsgD} (h : rMsg m) : cMsg m ≤ 140737488355328 := by
  obtain ⟨_, _, _, _, _, h6, ⟨h7, h8⟩, h9, ⟨h10, h11⟩, _⟩ := h
  have e1 := cEntry_r h6
  have e2 : cVoteds m.voted ≤ 244 * m.voted.length := sum_bound fun v hv => by
    have := cEntry_r (h8 v hv).2.2
    unfold cVoted; omega
  have e3 : cEvents m.events ≤ 300 * m.events.length := sum_bound fun v hv => by
    obtain ⟨_, _, q3, q4, _, q6, _⟩ := h11 v hv
    have a1 := name_32 q4
    have a2 := name_32 q6
    have a3 := q3.2.1
    unfold cEvent; omega
  have e4 := h9.2.1
  unfold cMsg; omega
theorem cMsg_0 : cMsg msg0 ≤ 140737488355328 := by decide +kernel
/-! ### What a record tells -/
open Classical in
noncomputable def decM (x : ByteArray) : Option MsgD := if h : ∃ m, rMsg m ∧ strBytes x = bMsg m ∧ (strBytes x).length ≤ 65536 then some h.choose else none
theorem bMsg_inj {m y : MsgD} (h1 : rMsg m) (h2 : rMsg y) (e : bMsg m = bMsg y) : m = y := (pf_msg m y [] [] h1 h2 (by rw [e])).1
theorem decM_some {x : ByteArray} {m : MsgD} (h1 : rMsg m) (h2 : strBytes x = bMsg m) (h3 : (strBytes x).length ≤ 65536) : decM x = some m := by
  unfold decM
  have h : ∃ m, rMsg m ∧ strBytes x = bMsg m ∧ (strBytes x).length ≤ 65536 := ⟨m, h1, h2, h3⟩
  rw [dif_pos h]
  exact congrArg some (bMsg_inj h.choose_spec.1 h1 (h.choose_spec.2.1.symm.trans h2))
theorem decM_none {x : ByteArray} (h : ¬ ∃ m, rMsg m ∧ strBytes x = bMsg m ∧ (strBytes x).length ≤ 65536) : decM x = none := by unfold decM; rw [dif_neg h]
theorem dec_res {x : ByteArray} {m : MsgD} {e : Int} (h : MsgRes (strBytes x) m e) (h0 : e = 10 → m = msg0) : (e = 0 ∧ rMsg m ∧ decM x = some m ∧ (strBytes x).length ≤ 65536 ∧ strBytes x = bMsg m) ∨ (e = 10 ∧ m = msg0 ∧ decM x = none) := by
  obtain ⟨y, s', h1, h2⟩ := h
  rcases h2 with ⟨k1, k2, k3, k4, k5⟩ | ⟨k1, k2⟩
  · obtain ⟨_, a2, a3⟩ := h1.snd k3
    rw [k4, List.append_nil] at a3
    subst k2
    exact .inl ⟨k1, a2, decM_some a2 a3 k5, k5, a3⟩
  · refine .inr ⟨k1, h0 k1, decM_none ?_⟩
    rintro ⟨z, z1, z2, z3⟩
    have g := h1.cmp z [] rfl z1 (by rw [List.append_nil]; exact z2)
    obtain ⟨_, a2, a3⟩ := h1.snd g
    obtain ⟨e1, e2⟩ := pf_msg z y [] s'.b z1 a2 (by rw [List.append_nil]; exact z2.symm.trans a3)
    rcases k2 with k | k | k
    · rw [g] at k; cases k
    · exact k e2.symm
    · omega
noncomputable def replE (s : AccD) (x : ByteArray) : Int := match decM x with
  | some m => if mineA s m ∧ ¬ nackA s m then 0 else 10
  | none => 10
noncomputable def replS (s : AccD) (x : ByteArray) : AccD := match decM x with
  | some m => stA s m
  | none => s
theorem stA_same {s : AccD} {m : MsgD} (h : ¬ (mineA s m ∧ ¬ nackA s m)) : stA s m = s := by unfold stA; rw [if_neg h]
set_option maxRecDepth 20000 in
theorem acReplay_spec {L : List HP} {b : Nat} {s : AccD} (x : ByteArray) (hx : x.size ≤ 140737488355328) : Fn Tryz.prog 7 #[.pointer (some ⟨b, 0, none⟩), .string x] (ac b s :: L) (fun v L' => v = .int .i64 (replE s x) ∧ L' = ac b (replS s x) :: L) := by
  refine Fn_enter Tryz.func7 rfl rfl rfl rfl ?_
  refine T_region ?_
  refine TL_y rfl rfl (Y_assign rfl) ?_
  refine TL_nil ?_
  refine T_seq ?_
  refine T_region ?_
  refine TL_y rfl rfl (Y_move rfl) ?_
  refine TL_pullk b ?_
  refine TL_call rfl rfl (acMade_spec) ?_
  rintro _ _ ⟨rfl, rfl⟩
  refine TL_name 9 (v' := .bool true) rfl (rfl) ?_
  refine TL_y rfl rfl (Y_not_t rfl) ?_
  refine TL_nil ?_
  refine T_cond_false rfl ?_
  refine T_skip ?_
  refine thenS_normal ?_
  refine T_region ?_
  refine TL_y rfl rfl (Y_move rfl) ?_
  refine TL_str_bytes rfl rfl (by simp only [maxEl]; omega) ?_
  intro A13 c13
  refine TL_call rfl rfl (readMsg3_spec slk (by rw [strBytes_length]; omega)) ?_
  rintro _ _ ⟨m, p, e, rfl, rfl, hok, hres, h0⟩
  refine TL_y rfl rfl (Y_move rfl) ?_
  refine TL_y rfl rfl (Y_extract rfl rfl) ?_
  refine TL_y rfl rfl (Y_extract rfl rfl) ?_
  refine TL_alloc rfl rfl ?_
  intro b5
  refine TL_store rfl rfl rfl rfl rfl rfl ?_
  refine TL_y rfl rfl (Y_assign rfl) ?_
  refine TL_nil ?_
  refine T_seq ?_
  have hdec := dec_res hres h0
  have hcm : cMsg m ≤ 140737488355328 := (by rcases hdec with ⟨_, h1, _⟩ | ⟨_, h1, _⟩; exact cMsg_r h1; rw [h1]; exact cMsg_0)
  refine T_region ?_
  refine TL_y rfl rfl (Y_move rfl) ?_
  refine TL_y rfl rfl (Y_load_agg rfl rfl) ?_
  refine TL_pullk b ?_
  refine TL_call rfl rfl (acJudge_spec m p hok ⟨slk, slk, slk, slk⟩ hcm) ?_
  rintro _ _ ⟨rfl, rfl⟩
  refine TL_name 19 (v' := .agg #[.string (recA s m), .bool (decide (mineA s m)), .bool (decide (mineA s m ∧ nackA s m))]) rfl (rfl) ?_
  refine TL_alloc rfl rfl ?_
  intro b7
  refine TL_store rfl rfl rfl rfl rfl rfl ?_
  refine TL_nil ?_
  rcases hdec with ⟨rfl, hr, hd, _⟩ | ⟨rfl, rfl, hd⟩
  · refine T_region ?_
    refine TL_y rfl rfl (Y_move rfl) ?_
    refine TL_y rfl rfl (Y_ne rfl rfl) ?_
    refine TL_name 21 (v' := .bool false) rfl (congrArg Value.bool (decide_eq_false (by decide))) ?_
    refine TL_y rfl rfl (Y_move rfl) ?_
    refine TL_grun rfl rfl ?_
    refine TL_y rfl rfl (Y_field_addr rfl) ?_
    refine TL_grun rfl rfl ?_
    refine TL_y rfl rfl (Y_load rfl rfl) ?_
    refine TL_grun rfl rfl ?_
    refine TL_y rfl rfl (Y_not_d rfl) ?_
    refine TL_y rfl rfl (Y_pick_f rfl rfl) ?_
    refine TL_y rfl rfl (Y_move rfl) ?_
    refine TL_splitd 27 rfl (fun h27 => ?_) (fun h27 => ?_)
    · refine TL_gskip rfl rfl rfl rfl ?_
      refine TL_gskip rfl rfl rfl rfl ?_
      refine TL_y rfl rfl (Y_pick_t rfl rfl) ?_
      refine TL_nil ?_
      refine T_cond_true rfl ?_
      refine T_region ?_
      refine TL_y rfl rfl (Y_assign rfl) ?_
      refine TL_nil ?_
      refine T_ret ?_
      refine thenS_ret ?_
      rw [show (replE s x : Int) = 10 by unfold replE; rw [hd]; exact if_neg (fun h => h27 h.1), show replS s x = s by unfold replS; rw [hd]; exact stA_same (fun h => h27 h.1)]
      exact RetG_1 (.inl rfl) rfl (ResV.tmp rfl) GivesTo.g (⟨rfl, rfl⟩)
    · refine TL_grun rfl rfl ?_
      refine TL_y rfl rfl (Y_field_addr rfl) ?_
      refine TL_grun rfl rfl ?_
      refine TL_y rfl rfl (Y_load rfl rfl) ?_
      refine TL_y rfl rfl (Y_pick_f rfl rfl) ?_
      refine TL_nil ?_
      refine T_if rfl (fun h30 => ?_) (fun h30 => ?_)
      · refine T_region ?_
        refine TL_y rfl rfl (Y_assign rfl) ?_
        refine TL_nil ?_
        refine T_ret ?_
        refine thenS_ret ?_
        rw [show (replE s x : Int) = 10 by unfold replE; rw [hd]; exact if_neg (fun h => h.2 h30.2), show replS s x = s by unfold replS; rw [hd]; exact stA_same (fun h => h.2 h30.2)]
        exact RetG_1 (.inl rfl) rfl (ResV.tmp rfl) GivesTo.g (⟨rfl, rfl⟩)
      · refine T_skip ?_
        refine thenS_normal ?_
        refine T_region ?_
        refine TL_y rfl rfl (Y_move rfl) ?_
        refine TL_y rfl rfl (Y_load_agg rfl rfl) ?_
        refine TL_pullk b ?_
        refine TL_call rfl rfl (acOn_spec m p hok ⟨slk, slk, slk, slk⟩ hcm) ?_
        rintro _ _ ⟨q, rfl, rfl⟩
        refine TL_nil ?_
        refine T_region ?_
        refine TL_y rfl rfl (Y_assign rfl) ?_
        refine TL_nil ?_
        refine T_ret ?_
        have hmine : mineA s m := Classical.not_not.1 h27
        rw [show (replE s x : Int) = 0 by unfold replE; rw [hd]; exact if_pos ⟨hmine, fun h => h30 ⟨hmine, h⟩⟩, show replS s x = stA s m by unfold replS; rw [hd]]
        exact RetG_1 (.inl rfl) rfl (ResV.tmp rfl) GivesTo.g (⟨rfl, rfl⟩)
  · refine T_region ?_
    refine TL_y rfl rfl (Y_move rfl) ?_
    refine TL_y rfl rfl (Y_ne rfl rfl) ?_
    refine TL_name 21 (v' := .bool true) rfl (congrArg Value.bool (decide_eq_true (by decide))) ?_
    refine TL_y rfl rfl (Y_move rfl) ?_
    refine TL_gskip rfl rfl rfl rfl ?_
    refine TL_gskip rfl rfl rfl rfl ?_
    refine TL_gskip rfl rfl rfl rfl ?_
    refine TL_y rfl rfl (Y_pick_t rfl rfl) ?_
    refine TL_y rfl rfl (Y_move rfl) ?_
    refine TL_gskip rfl rfl rfl rfl ?_
    refine TL_gskip rfl rfl rfl rfl ?_
    refine TL_y rfl rfl (Y_pick_t rfl rfl) ?_
    refine TL_nil ?_
    refine T_cond_true rfl ?_
    refine T_region ?_
    refine TL_y rfl rfl (Y_assign rfl) ?_
    refine TL_nil ?_
    refine T_ret ?_
    refine thenS_ret ?_
    rw [show (replE s x : Int) = 10 by unfold replE; rw [hd], show replS s x = s by unfold replS; rw [hd]]
    exact RetG_1 (.inl rfl) rfl (ResV.tmp rfl) GivesTo.g (⟨rfl, rfl⟩)
end Go.SL
set_option linter.unusedVariables false
set_option linter.unusedSimpArgs false
namespace Go.SL
open Go Go.Proofs
structure LsSt where
  i : Nat
  n : Nat
  s : AccD
  t : AccD
end Go.SL
