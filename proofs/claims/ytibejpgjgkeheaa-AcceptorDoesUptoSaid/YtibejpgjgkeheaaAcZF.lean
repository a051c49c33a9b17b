/- What the laws of this claim need, together: the logic, data in memory, the walks of functions. -/
import Derived.Test.YtibejpgjgkeheaaAcZE
import Derived.Test.YtibejpgjgkeheaaRows
import Derived.WalkKit
import Derived.JoinedCond
import Derived.Deep.CondSized
set_option linter.unusedVariables false
set_option linter.unusedSimpArgs false
set_option linter.unusedVariables false
set_option linter.unusedSimpArgs false
namespace Go.SL
open Go Go.Proofs
def fullA (s : AccD) (m : MsgD) : Prop := m.kind = 3 ∧ getM (vmap s.V) m.slot = none ∧ 4096 ≤ s.V.length
instance (s : AccD) (m : MsgD) : Decidable (fullA s m) := by unfold fullA; exact inferInstance
abbrev raC (s : AccD) (A : Option Addr) (c : Nat) : List Value := [.int .i64 s.node, .int .i64 s.prom.1, .int .i64 s.prom.2, .slice A s.V.length c]
theorem refOn_bad {L : List HP} {b : Nat} {s : AccD} (m : MsgD) (p : MsgP) (hx : MsgOk m) (hk : MsgK L m p) (hm : ¬ mineA s m) : Fn Try.prog 29 #[.pointer (some ⟨b, 0, none⟩), msgV m p] (ra b s :: L) (fun v L' => ∃ q, v = .tuple #[msgV (repA s m) q, .string (recA s m), .bool (decide (mineA s m))] ∧ L' = mL (repA s m) q (ra b (stA s m) :: L)) := by
  have e1 : repA s m = msg0 := by unfold repA; rw [if_neg hm]
  have e2 : recA s m = ⟨#[]⟩ := by unfold recA; rw [if_neg (fun h => hm h.1)]
  have e3 : stA s m = s := by unfold stA; rw [if_neg (fun h => hm h.1)]
  rw [e1, e2, e3, decide_eq_false hm]
  refine Fn_enter Try.func29 rfl rfl rfl rfl ?_
  refine T_region ?_
  refine TL_box rfl rfl rfl ?_
  intro b3
  refine TL_alloc rfl rfl ?_
  intro b4
  refine TL_y rfl rfl (Y_assign rfl) ?_
  refine TL_y rfl rfl (Y_assign rfl) ?_
  refine TL_nil ?_
  refine T_region ?_
  refine TL_y rfl rfl (Y_load_agg rfl rfl) ?_
  refine TL_call rfl rfl (refMsg_spec m p hx hk.tail.tail.tail) ?_
  rintro _ _ ⟨A14, c14, rfl, rfl⟩
  refine TL_y rfl rfl (Y_move rfl) ?_
  refine TL_y rfl rfl (Y_extract rfl rfl) ?_
  refine TL_y rfl rfl (Y_extract rfl rfl) ?_
  refine TL_y rfl rfl (Y_assign rfl) ?_
  refine TL_y rfl rfl (Y_assign rfl) ?_
  refine TL_nil ?_
  refine T_seq ?_
  refine T_pullk b ?_
  refine T_ra fun A c hlc => ?_
  refine T_region_draw _ [0, 1, 3, 7, 15, 7, 39, 103, 231, 511, 1023, 2047, 4095, 8191, 16383, 32767, 65535, 131071, 262143, 524287, 1048575] [] [(0, true), (1, true), (2, true), (3, true), (4, true), (5, true), (6, true), (7, true), (8, true), (9, true), (10, true), (11, true), (12, true), (13, true), (14, true), (15, true), (16, true), (17, true), (18, true), (19, true), (20, true)] (by kernel_rfl) (by decide +kernel) (Gives.refl _) ?_
  refine TF_y rfl rfl (Y_move rfl) ?_
  refine TF_y rfl rfl (Y_ne rfl rfl) ?_
  refine TF_y rfl rfl (Y_move rfl) ?_
  refine TF_splitd 19 rfl (fun h19 => ?_) (fun h19 => ?_)
  · refine TF_gskip rfl rfl rfl rfl rfl ?_
    refine TF_gskip rfl rfl rfl rfl rfl ?_
    refine TF_gskip rfl rfl rfl rfl rfl ?_
    refine TF_gskip rfl rfl rfl rfl rfl ?_
    refine TF_gskip rfl rfl rfl rfl rfl ?_
    refine TF_gskip rfl rfl rfl rfl rfl ?_
    refine TF_gskip rfl rfl rfl rfl rfl ?_
    refine TF_y rfl rfl (Y_pick_t rfl rfl) ?_
    refine TF_y rfl rfl (Y_move rfl) ?_
    refine TF_gskip rfl rfl rfl rfl rfl ?_
    refine TF_gskip rfl rfl rfl rfl rfl ?_
    refine TF_gskip rfl rfl rfl rfl rfl ?_
    refine TF_gskip rfl rfl rfl rfl rfl ?_
    refine TF_gskip_u rfl rfl rfl rfl ?_
    refine TF_gskip_u rfl rfl rfl rfl ?_
    refine TF_gskip_u rfl rfl rfl rfl ?_
    refine TF_gskip rfl rfl rfl rfl rfl ?_
    refine TF_y rfl rfl (Y_pick_t rfl rfl) ?_
    refine TF_nil ?_
    refine T_cond_true rfl ?_
    refine T_region ?_
    refine TL_y rfl rfl (Y_build rfl rfl) ?_
    refine TL_store rfl rfl rfl rfl rfl rfl ?_
    refine TL_y rfl rfl (Y_assign rfl) ?_
    refine TL_y rfl rfl (Y_assign rfl) ?_
    refine TL_nil ?_
    refine T_ret ?_
    refine thenS_ret ?_
    refine RetQ.gives (ra_close (A := A) (c := c) b s) ?_
    refine RetQ.gives (mL_nil (m := msg0) rfl rfl rfl rfl) ?_
    exact RetG_3 (.inl rfl) rfl (ResV.agg rfl rfl) (ResV.tmp rfl) (ResV.tmp rfl) GivesTo.g (⟨mP0, rfl, rfl⟩)
  · refine TF_gy rfl rfl rfl rfl (Y_field_addr rfl) ?_
    refine TF_gy rfl rfl rfl rfl (Y_load rfl rfl) ?_
    refine TF_gy rfl rfl rfl rfl (Y_move rfl) ?_
    refine TF_gy rfl rfl rfl rfl (Y_nil_check rfl) ?_
    refine TF_gy rfl rfl rfl rfl (Y_field_addr rfl) ?_
    refine TF_gy rfl rfl rfl rfl (Y_load rfl rfl) ?_
    refine TF_gy rfl rfl rfl rfl (Y_ne rfl rfl) ?_
    refine TF_y rfl rfl (Y_pick_f rfl rfl) ?_
    refine TF_y rfl rfl (Y_move rfl) ?_
    refine TF_splitd 28 rfl (fun h28 => ?_) (fun h28 => ?_)
    · refine TF_gskip rfl rfl rfl rfl rfl ?_
      refine TF_gskip rfl rfl rfl rfl rfl ?_
      refine TF_gskip rfl rfl rfl rfl rfl ?_
      refine TF_gskip rfl rfl rfl rfl rfl ?_
      refine TF_gskip_u rfl rfl rfl rfl ?_
      refine TF_gskip_u rfl rfl rfl rfl ?_
      refine TF_gskip_u rfl rfl rfl rfl ?_
      refine TF_gskip rfl rfl rfl rfl rfl ?_
      refine TF_y rfl rfl (Y_pick_t rfl rfl) ?_
      refine TF_nil ?_
      refine T_cond_true rfl ?_
      refine T_region ?_
      refine TL_y rfl rfl (Y_build rfl rfl) ?_
      refine TL_store rfl rfl rfl rfl rfl rfl ?_
      refine TL_y rfl rfl (Y_assign rfl) ?_
      refine TL_y rfl rfl (Y_assign rfl) ?_
      refine TL_nil ?_
      refine T_ret ?_
      refine thenS_ret ?_
      refine RetQ.gives (ra_close (A := A) (c := c) b s) ?_
      refine RetQ.gives (mL_nil (m := msg0) rfl rfl rfl rfl) ?_
      exact RetG_3 (.inl rfl) rfl (ResV.agg rfl rfl) (ResV.tmp rfl) (ResV.tmp rfl) GivesTo.g (⟨mP0, rfl, rfl⟩)
    · refine TF_gy rfl rfl rfl rfl (Y_field_addr rfl) ?_
      refine TF_gy rfl rfl rfl rfl (Y_load rfl rfl) ?_
      refine TF_gy rfl rfl rfl rfl (Y_ne rfl rfl) ?_
      refine TF_name 31 (v' := .bool true) rfl (congrArg Value.bool (decide_eq_true (by unfold mineA at hm; omega))) ?_
      refine TF_gy rfl rfl rfl rfl (Y_move rfl) ?_
      refine TF_gy rfl rfl rfl rfl (Y_field_addr rfl) ?_
      refine TF_gy rfl rfl rfl rfl (Y_load rfl rfl) ?_
      refine TF_gy rfl rfl rfl rfl (Y_ne rfl rfl) ?_
      refine TF_name 35 (v' := .bool true) rfl (congrArg Value.bool (decide_eq_true (by unfold mineA at hm; omega))) ?_
      refine TF_gy rfl rfl rfl rfl (Y_pick_t rfl rfl) ?_
      refine TF_y rfl rfl (Y_pick_f rfl rfl) ?_
      refine TF_nil ?_
      refine T_cond_true rfl ?_
      refine T_region ?_
      refine TL_y rfl rfl (Y_build rfl rfl) ?_
      refine TL_store rfl rfl rfl rfl rfl rfl ?_
      refine TL_y rfl rfl (Y_assign rfl) ?_
      refine TL_y rfl rfl (Y_assign rfl) ?_
      refine TL_nil ?_
      refine T_ret ?_
      refine thenS_ret ?_
      refine RetQ.gives (ra_close (A := A) (c := c) b s) ?_
      refine RetQ.gives (mL_nil (m := msg0) rfl rfl rfl rfl) ?_
      exact RetG_3 (.inl rfl) rfl (ResV.agg rfl rfl) (ResV.tmp rfl) (ResV.tmp rfl) GivesTo.g (⟨mP0, rfl, rfl⟩)
set_option maxRecDepth 20000 in
theorem refOn_nack {L : List HP} {b : Nat} {s : AccD} (m : MsgD) (p : MsgP) (hx : MsgOk m) (hk : MsgK L m p) (hm : mineA s m) (hn : nackA s m) : Fn Try.prog 29 #[.pointer (some ⟨b, 0, none⟩), msgV m p] (ra b s :: L) (fun v L' => ∃ q, v = .tuple #[msgV (repA s m) q, .string (recA s m), .bool (decide (mineA s m))] ∧ L' = mL (repA s m) q (ra b (stA s m) :: L)) := by
  have e1 : repA s m = repM s m 5 s.prom [] := by unfold repA; rw [if_pos hm, if_pos hn]
  have e2 : recA s m = ⟨#[]⟩ := by unfold recA; rw [if_neg (fun h => h.2.1 hn)]
  have e3 : stA s m = s := by unfold stA; rw [if_neg (fun h => h.2 hn)]
  rw [e1, e2, e3, decide_eq_true hm]
  refine Fn_enter Try.func29 rfl rfl rfl rfl ?_
  refine T_region ?_
  refine TL_box rfl rfl rfl ?_
  intro b3
  refine TL_alloc rfl rfl ?_
  intro b4
  refine TL_y rfl rfl (Y_assign rfl) ?_
  refine TL_y rfl rfl (Y_assign rfl) ?_
  refine TL_nil ?_
  refine T_region ?_
  refine TL_y rfl rfl (Y_load_agg rfl rfl) ?_
  refine TL_call rfl rfl (refMsg_spec m p hx hk.tail.tail.tail) ?_
  rintro _ _ ⟨A14, c14, rfl, rfl⟩
  refine TL_y rfl rfl (Y_move rfl) ?_
  refine TL_y rfl rfl (Y_extract rfl rfl) ?_
  refine TL_y rfl rfl (Y_extract rfl rfl) ?_
  refine TL_y rfl rfl (Y_assign rfl) ?_
  refine TL_y rfl rfl (Y_assign rfl) ?_
  refine TL_nil ?_
  refine T_seq ?_
  refine T_pullk b ?_
  refine T_ra fun A c hlc => ?_
  refine T_region_draw _ [0, 1, 3, 7, 15, 7, 39, 103, 231, 511, 1023, 2047, 4095, 8191, 16383, 32767, 65535, 131071, 262143, 524287, 1048575] [] [(0, true), (1, true), (2, true), (3, true), (4, true), (5, true), (6, true), (7, true), (8, true), (9, true), (10, true), (11, true), (12, true), (13, true), (14, true), (15, true), (16, true), (17, true), (18, true), (19, true), (20, true)] (by kernel_rfl) (by decide +kernel) (Gives.refl _) ?_
  refine TF_y rfl rfl (Y_move rfl) ?_
  refine TF_y rfl rfl (Y_ne rfl rfl) ?_
  refine TF_name 18 (v' := .bool false) rfl (congrArg Value.bool (decide_eq_false (by have := hm.1; omega))) ?_
  refine TF_y rfl rfl (Y_move rfl) ?_
  refine TF_gy rfl rfl rfl rfl (Y_field_addr rfl) ?_
  refine TF_gy rfl rfl rfl rfl (Y_load rfl rfl) ?_
  refine TF_gy rfl rfl rfl rfl (Y_move rfl) ?_
  refine TF_gy rfl rfl rfl rfl (Y_nil_check rfl) ?_
  refine TF_gy rfl rfl rfl rfl (Y_field_addr rfl) ?_
  refine TF_gy rfl rfl rfl rfl (Y_load rfl rfl) ?_
  refine TF_gy rfl rfl rfl rfl (Y_ne rfl rfl) ?_
  refine TF_name 26 (v' := .bool false) rfl (congrArg Value.bool (decide_eq_false (by have := hm.2.1; omega))) ?_
  refine TF_y rfl rfl (Y_pick_f rfl rfl) ?_
  refine TF_y rfl rfl (Y_move rfl) ?_
  refine TF_gy rfl rfl rfl rfl (Y_field_addr rfl) ?_
  refine TF_gy rfl rfl rfl rfl (Y_load rfl rfl) ?_
  refine TF_gy rfl rfl rfl rfl (Y_ne rfl rfl) ?_
  refine TF_gy rfl rfl rfl rfl (Y_move rfl) ?_
  refine TF_splitd 32 rfl (fun h32 => ?_) (fun h32 => ?_)
  · refine TF_gy rfl rfl rfl rfl (Y_field_addr rfl) ?_
    refine TF_gy rfl rfl rfl rfl (Y_load rfl rfl) ?_
    refine TF_gy rfl rfl rfl rfl (Y_ne rfl rfl) ?_
    refine TF_name 35 (v' := .bool false) rfl (congrArg Value.bool (decide_eq_false (by have := hm.2.2; omega))) ?_
    refine TF_gy rfl rfl rfl rfl (Y_pick_t rfl rfl) ?_
    refine TF_y rfl rfl (Y_pick_f rfl rfl) ?_
    refine TF_nil ?_
    refine T_cond_false rfl ?_
    refine T_skip ?_
    refine thenS_normal ?_
    refine T_region_draw _ [0, 1, 3, 7, 0, 16, 0, 64, 0, 256, 0, 2047, 0, 8191] [] [(0, true), (1, true), (2, true), (3, true), (4, true), (5, true), (6, true), (7, true), (8, true), (9, true), (10, true), (11, true), (12, false), (13, false)] (by kernel_rfl) (by decide +kernel) (Gives.refl _) ?_
    refine TF_y rfl rfl (Y_move rfl) ?_
    refine TF_y rfl rfl (Y_nil_check rfl) ?_
    refine TF_y rfl rfl (Y_field_addr rfl) ?_
    refine TF_y rfl rfl (Y_load rfl rfl) ?_
    refine TF_y rfl rfl (Y_field_addr rfl) ?_
    refine TF_y rfl rfl (Y_load rfl rfl) ?_
    refine TF_y rfl rfl (Y_field_addr rfl) ?_
    refine TF_y rfl rfl (Y_load_agg rfl rfl) ?_
    refine TF_y rfl rfl (Y_field_addr rfl) ?_
    refine TF_y rfl rfl (Y_load rfl rfl) ?_
    refine TF_y rfl rfl (Y_build rfl rfl) ?_
    refine TF_y rfl rfl (Y_build rfl rfl) ?_
    refine TF_anchor rfl ?_
    refine TL_alloc rfl rfl ?_
    intro b9
    refine TF_end GivesTo.g ?_
    refine TF_anchor rfl ?_
    refine TL_store rfl rfl rfl rfl rfl rfl ?_
    refine TF_end GivesTo.g ?_
    refine TF_nil ?_
    refine T_gives (ra_close (A := A) (c := c) b s) ?_
    refine T_region ?_
    refine TL_y rfl rfl (Y_field_addr rfl) ?_
    refine TL_y rfl rfl (Y_load rfl rfl) ?_
    refine TL_y rfl rfl (Y_eq rfl rfl) ?_
    refine TL_both 15 68 (fullA s m) ?_ ?_
    · refine TL_y rfl rfl (Y_move rfl) ?_
      refine TL_splitd 54 rfl (fun h54 => ?_) (fun h54 => ?_)
      · refine TL_grun rfl rfl ?_
        refine TL_y rfl rfl (Y_move rfl) ?_
        refine TL_grun rfl rfl ?_
        refine TL_y rfl rfl (Y_field_addr rfl) ?_
        refine TL_grun rfl rfl ?_
        refine TL_y rfl rfl (Y_load rfl rfl) ?_
        refine TL_grun rfl rfl ?_
        refine TL_pullk b ?_
        refine TL_call rfl rfl (refFind16_spec m.slot) ?_
        rintro _ _ ⟨r, rfl, rfl, hr⟩
        refine TL_grun rfl rfl ?_
        refine TL_y rfl rfl (Y_lt rfl rfl) ?_
        refine TL_y rfl rfl (Y_pick_t rfl rfl) ?_
        refine TL_y rfl rfl (Y_move rfl) ?_
        refine TL_splitd 61 rfl (fun h61 => ?_) (fun h61 => ?_)
        · refine TL_grun rfl rfl ?_
          refine TL_y rfl rfl (Y_move rfl) ?_
          refine TL_grun rfl rfl ?_
          refine TL_y rfl rfl (Y_nil_check rfl) ?_
          refine TL_grun rfl rfl ?_
          refine TL_y rfl rfl (Y_field_addr rfl) ?_
          refine TL_grun rfl rfl ?_
          refine TL_pullk b ?_
          refine TL_ra fun A2 c2 hlc2 => ?_
          refine TL_y rfl rfl (Y_load rfl rfl) ?_
          refine TL_grun rfl rfl ?_
          refine TL_y rfl rfl (Y_len rfl) ?_
          refine TL_gives (ra_close (A := A2) (c := c2) b s) ?_
          refine TL_grun rfl rfl ?_
          refine TL_y rfl rfl (Y_ge rfl rfl) ?_
          refine TL_y rfl rfl (Y_pick_t rfl rfl) ?_
          refine TL_chain_end rfl ?_ (by repeat (first | exact sub_refl | refine sub_ext rfl ?_)) GivesTo.g
          exact congrArg Value.bool (decide_eq_decide.2 (⟨fun h => ⟨h54, by rcases hr with ⟨_, h2⟩ | ⟨i, u, h2, _, _⟩; exact h2; omega, by omega⟩, fun h => by have := h.2.2; omega⟩))
        · refine TL_gskip rfl rfl rfl rfl ?_
          refine TL_gskip rfl rfl rfl rfl ?_
          refine TL_gskip rfl rfl rfl rfl ?_
          refine TL_gskip rfl rfl rfl rfl ?_
          refine TL_gskip rfl rfl rfl rfl ?_
          refine TL_gskip rfl rfl rfl rfl ?_
          refine TL_y rfl rfl (Y_pick_f rfl rfl) ?_
          refine TL_chain_end rfl ?_ (by repeat (first | exact sub_refl | refine sub_ext rfl ?_)) GivesTo.g
          exact congrArg Value.bool (decide_eq_false (fun h => h61 (by rcases hr with ⟨hr, _⟩ | ⟨i, u, _, h2, h3⟩; omega; exact absurd h3 (vmap_none.1 h.2.1 u (List.mem_of_getElem? h2))))).symm
      · refine TL_gskip rfl rfl rfl rfl ?_
        refine TL_gskip rfl rfl rfl rfl ?_
        refine TL_gskip rfl rfl rfl rfl ?_
        refine TL_gskip rfl rfl rfl rfl ?_
        refine TL_gskip rfl rfl rfl rfl ?_
        refine TL_y rfl rfl (Y_pick_f rfl rfl) ?_
        refine TL_y rfl rfl (Y_move rfl) ?_
        refine TL_gskip rfl rfl rfl rfl ?_
        refine TL_gskip rfl rfl rfl rfl ?_
        refine TL_gskip rfl rfl rfl rfl ?_
        refine TL_gskip rfl rfl rfl rfl ?_
        refine TL_gskip rfl rfl rfl rfl ?_
        refine TL_gskip rfl rfl rfl rfl ?_
        refine TL_y rfl rfl (Y_pick_f rfl rfl) ?_
        refine TL_chain_end rfl ?_ (by repeat (first | exact sub_refl | refine sub_ext rfl ?_)) GivesTo.g
        exact congrArg Value.bool (decide_eq_false (fun h => h54 h.1)).symm
    refine TL_y rfl rfl (Y_assign rfl) ?_
    refine TL_nil ?_
    refine T_seq ?_
    refine T_pullk b ?_
    refine T_ra fun A c hlc => ?_
    refine T_region_draw _ [0, 1, 0, 4, 12, 28, 63, 127, 255, 511, 1023] [] [(0, true), (1, true), (2, true), (3, true), (4, true), (5, true), (6, false), (7, true), (8, true), (9, true), (10, true)] (by kernel_rfl) (by decide +kernel) (Gives.refl _) ?_
    refine TF_y rfl rfl (Y_field_addr rfl) ?_
    refine TF_y rfl rfl (Y_load_agg rfl rfl) ?_
    refine TF_y rfl rfl (Y_move rfl) ?_
    refine TF_y rfl rfl (Y_nil_check rfl) ?_
    refine TF_y rfl rfl (Y_field_addr rfl) ?_
    refine TF_y rfl rfl (Y_load_agg rfl rfl) ?_
    refine TF_anchor rfl ?_
    refine TL_call rfl rfl (refCompare_spec m.bal s.prom _) ?_
    rintro _ _ ⟨rfl, rfl⟩
    refine TF_end GivesTo.g ?_
    refine TF_y rfl rfl (Y_lt rfl rfl) ?_
    refine TF_y rfl rfl (Y_move rfl) ?_
    refine TF_splitd 77 rfl (fun h77 => ?_) (fun h77 => ?_)
    · refine TF_gskip rfl rfl rfl rfl rfl ?_
      refine TF_y rfl rfl (Y_pick_t rfl rfl) ?_
      refine TF_nil ?_
      refine T_cond_true rfl ?_
      refine T_region_draw (cells b (raC s A c) 64 :: []) [0, 1, 3, 7, 0, 16, 63, 127] [] [(0, true), (1, true), (2, true), (3, true), (4, true), (5, false), (6, true), (7, false)] (by kernel_rfl) (by decide +kernel) GivesTo.g ?_
      refine TF_y rfl rfl (Y_move rfl) ?_
      refine TF_y rfl rfl (Y_nil_check rfl) ?_
      refine TF_y rfl rfl (Y_field_addr rfl) ?_
      refine TF_y rfl rfl (Y_load_agg rfl rfl) ?_
      refine TF_y rfl rfl (Y_field_addr rfl) ?_
      refine TF_anchor rfl ?_
      refine TL_store rfl rfl rfl rfl rfl rfl ?_
      refine TF_end GivesTo.g ?_
      refine TF_y rfl rfl (Y_field_addr rfl) ?_
      refine TF_anchor rfl ?_
      refine TL_store rfl rfl rfl rfl rfl rfl ?_
      refine TF_end GivesTo.g ?_
      refine TF_nil ?_
      refine T_region ?_
      refine TL_y rfl rfl (Y_load_agg rfl rfl) ?_
      refine TL_store rfl rfl rfl rfl rfl rfl ?_
      refine TL_y rfl rfl (Y_assign rfl) ?_
      refine TL_y rfl rfl (Y_assign rfl) ?_
      refine TL_nil ?_
      refine T_ret ?_
      refine thenS_ret ?_
      refine RetQ.gives (ra_close (A := A) (c := c) b s) ?_
      refine RetQ.gives (mL_nil (m := repM s m 5 s.prom []) rfl rfl rfl rfl) ?_
      exact RetG_3 (.inl rfl) rfl (ResV.agg rfl rfl) (ResV.tmp rfl) (ResV.tmp rfl) GivesTo.g (⟨mP0, rfl, rfl⟩)
    · refine TF_gy rfl rfl rfl rfl (Y_move rfl) ?_
      refine TF_name 78 (v' := .bool true) rfl (congrArg Value.bool (decide_eq_true (by rcases hn with h | h; exact absurd h h77; exact h))) ?_
      refine TF_y rfl rfl (Y_pick_f rfl rfl) ?_
      refine TF_nil ?_
      refine T_cond_true rfl ?_
      refine T_region_draw (cells b (raC s A c) 64 :: []) [0, 1, 3, 7, 0, 16, 63, 127] [] [(0, true), (1, true), (2, true), (3, true), (4, true), (5, false), (6, true), (7, false)] (by kernel_rfl) (by decide +kernel) GivesTo.g ?_
      refine TF_y rfl rfl (Y_move rfl) ?_
      refine TF_y rfl rfl (Y_nil_check rfl) ?_
      refine TF_y rfl rfl (Y_field_addr rfl) ?_
      refine TF_y rfl rfl (Y_load_agg rfl rfl) ?_
      refine TF_y rfl rfl (Y_field_addr rfl) ?_
      refine TF_anchor rfl ?_
      refine TL_store rfl rfl rfl rfl rfl rfl ?_
      refine TF_end GivesTo.g ?_
      refine TF_y rfl rfl (Y_field_addr rfl) ?_
      refine TF_anchor rfl ?_
      refine TL_store rfl rfl rfl rfl rfl rfl ?_
      refine TF_end GivesTo.g ?_
      refine TF_nil ?_
      refine T_region ?_
      refine TL_y rfl rfl (Y_load_agg rfl rfl) ?_
      refine TL_store rfl rfl rfl rfl rfl rfl ?_
      refine TL_y rfl rfl (Y_assign rfl) ?_
      refine TL_y rfl rfl (Y_assign rfl) ?_
      refine TL_nil ?_
      refine T_ret ?_
      refine thenS_ret ?_
      refine RetQ.gives (ra_close (A := A) (c := c) b s) ?_
      refine RetQ.gives (mL_nil (m := repM s m 5 s.prom []) rfl rfl rfl rfl) ?_
      exact RetG_3 (.inl rfl) rfl (ResV.agg rfl rfl) (ResV.tmp rfl) (ResV.tmp rfl) GivesTo.g (⟨mP0, rfl, rfl⟩)
  · refine TF_gskip rfl rfl rfl rfl rfl ?_
    refine TF_gskip rfl rfl rfl rfl rfl ?_
    refine TF_gskip rfl rfl rfl rfl rfl ?_
    refine TF_gy rfl rfl rfl rfl (Y_pick_f rfl rfl) ?_
    refine TF_y rfl rfl (Y_pick_f rfl rfl) ?_
    refine TF_nil ?_
    refine T_cond_false rfl ?_
    refine T_skip ?_
    refine thenS_normal ?_
    refine T_region_draw _ [0, 1, 3, 7, 0, 16, 0, 64, 0, 256, 0, 2047, 0, 8191] [] [(0, true), (1, true), (2, true), (3, true), (4, true), (5, true), (6, true), (7, true), (8, true), (9, true), (10, true), (11, true), (12, false), (13, false)] (by kernel_rfl) (by decide +kernel) (Gives.refl _) ?_
    refine TF_y rfl rfl (Y_move rfl) ?_
    refine TF_y rfl rfl (Y_nil_check rfl) ?_
    refine TF_y rfl rfl (Y_field_addr rfl) ?_
    refine TF_y rfl rfl (Y_load rfl rfl) ?_
    refine TF_y rfl rfl (Y_field_addr rfl) ?_
    refine TF_y rfl rfl (Y_load rfl rfl) ?_
    refine TF_y rfl rfl (Y_field_addr rfl) ?_
    refine TF_y rfl rfl (Y_load_agg rfl rfl) ?_
    refine TF_y rfl rfl (Y_field_addr rfl) ?_
    refine TF_y rfl rfl (Y_load rfl rfl) ?_
    refine TF_y rfl rfl (Y_build rfl rfl) ?_
    refine TF_y rfl rfl (Y_build rfl rfl) ?_
    refine TF_anchor rfl ?_
    refine TL_alloc rfl rfl ?_
    intro b9
    refine TF_end GivesTo.g ?_
    refine TF_anchor rfl ?_
    refine TL_store rfl rfl rfl rfl rfl rfl ?_
    refine TF_end GivesTo.g ?_
    refine TF_nil ?_
    refine T_gives (ra_close (A := A) (c := c) b s) ?_
    refine T_region ?_
    refine TL_y rfl rfl (Y_field_addr rfl) ?_
    refine TL_y rfl rfl (Y_load rfl rfl) ?_
    refine TL_y rfl rfl (Y_eq rfl rfl) ?_
    refine TL_both 15 68 (fullA s m) ?_ ?_
    · refine TL_y rfl rfl (Y_move rfl) ?_
      refine TL_splitd 54 rfl (fun h54 => ?_) (fun h54 => ?_)
      · refine TL_grun rfl rfl ?_
        refine TL_y rfl rfl (Y_move rfl) ?_
        refine TL_grun rfl rfl ?_
        refine TL_y rfl rfl (Y_field_addr rfl) ?_
        refine TL_grun rfl rfl ?_
        refine TL_y rfl rfl (Y_load rfl rfl) ?_
        refine TL_grun rfl rfl ?_
        refine TL_pullk b ?_
        refine TL_call rfl rfl (refFind16_spec m.slot) ?_
        rintro _ _ ⟨r, rfl, rfl, hr⟩
        refine TL_grun rfl rfl ?_
        refine TL_y rfl rfl (Y_lt rfl rfl) ?_
        refine TL_y rfl rfl (Y_pick_t rfl rfl) ?_
        refine TL_y rfl rfl (Y_move rfl) ?_
        refine TL_splitd 61 rfl (fun h61 => ?_) (fun h61 => ?_)
        · refine TL_grun rfl rfl ?_
          refine TL_y rfl rfl (Y_move rfl) ?_
          refine TL_grun rfl rfl ?_
          refine TL_y rfl rfl (Y_nil_check rfl) ?_
          refine TL_grun rfl rfl ?_
          refine TL_y rfl rfl (Y_field_addr rfl) ?_
          refine TL_grun rfl rfl ?_
          refine TL_pullk b ?_
          refine TL_ra fun A2 c2 hlc2 => ?_
          refine TL_y rfl rfl (Y_load rfl rfl) ?_
          refine TL_grun rfl rfl ?_
          refine TL_y rfl rfl (Y_len rfl) ?_
          refine TL_gives (ra_close (A := A2) (c := c2) b s) ?_
          refine TL_grun rfl rfl ?_
          refine TL_y rfl rfl (Y_ge rfl rfl) ?_
          refine TL_y rfl rfl (Y_pick_t rfl rfl) ?_
          refine TL_chain_end rfl ?_ (by repeat (first | exact sub_refl | refine sub_ext rfl ?_)) GivesTo.g
          exact congrArg Value.bool (decide_eq_decide.2 (⟨fun h => ⟨h54, by rcases hr with ⟨_, h2⟩ | ⟨i, u, h2, _, _⟩; exact h2; omega, by omega⟩, fun h => by have := h.2.2; omega⟩))
        · refine TL_gskip rfl rfl rfl rfl ?_
          refine TL_gskip rfl rfl rfl rfl ?_
          refine TL_gskip rfl rfl rfl rfl ?_
          refine TL_gskip rfl rfl rfl rfl ?_
          refine TL_gskip rfl rfl rfl rfl ?_
          refine TL_gskip rfl rfl rfl rfl ?_
          refine TL_y rfl rfl (Y_pick_f rfl rfl) ?_
          refine TL_chain_end rfl ?_ (by repeat (first | exact sub_refl | refine sub_ext rfl ?_)) GivesTo.g
          exact congrArg Value.bool (decide_eq_false (fun h => h61 (by rcases hr with ⟨hr, _⟩ | ⟨i, u, _, h2, h3⟩; omega; exact absurd h3 (vmap_none.1 h.2.1 u (List.mem_of_getElem? h2))))).symm
      · refine TL_gskip rfl rfl rfl rfl ?_
        refine TL_gskip rfl rfl rfl rfl ?_
        refine TL_gskip rfl rfl rfl rfl ?_
        refine TL_gskip rfl rfl rfl rfl ?_
        refine TL_gskip rfl rfl rfl rfl ?_
        refine TL_y rfl rfl (Y_pick_f rfl rfl) ?_
        refine TL_y rfl rfl (Y_move rfl) ?_
        refine TL_gskip rfl rfl rfl rfl ?_
        refine TL_gskip rfl rfl rfl rfl ?_
        refine TL_gskip rfl rfl rfl rfl ?_
        refine TL_gskip rfl rfl rfl rfl ?_
        refine TL_gskip rfl rfl rfl rfl ?_
        refine TL_gskip rfl rfl rfl rfl ?_
        refine TL_y rfl rfl (Y_pick_f rfl rfl) ?_
        refine TL_chain_end rfl ?_ (by repeat (first | exact sub_refl | refine sub_ext rfl ?_)) GivesTo.g
        exact congrArg Value.bool (decide_eq_false (fun h => h54 h.1)).symm
    refine TL_y rfl rfl (Y_assign rfl) ?_
    refine TL_nil ?_
    refine T_seq ?_
    refine T_pullk b ?_
    refine T_ra fun A c hlc => ?_
    refine T_region_draw _ [0, 1, 0, 4, 12, 28, 63, 127, 255, 511, 1023] [] [(0, true), (1, true), (2, true), (3, true), (4, true), (5, true), (6, false), (7, true), (8, true), (9, true), (10, true)] (by kernel_rfl) (by decide +kernel) (Gives.refl _) ?_
    refine TF_y rfl rfl (Y_field_addr rfl) ?_
    refine TF_y rfl rfl (Y_load_agg rfl rfl) ?_
    refine TF_y rfl rfl (Y_move rfl) ?_
    refine TF_y rfl rfl (Y_nil_check rfl) ?_
    refine TF_y rfl rfl (Y_field_addr rfl) ?_
    refine TF_y rfl rfl (Y_load_agg rfl rfl) ?_
    refine TF_anchor rfl ?_
    refine TL_call rfl rfl (refCompare_spec m.bal s.prom _) ?_
    rintro _ _ ⟨rfl, rfl⟩
    refine TF_end GivesTo.g ?_
    refine TF_y rfl rfl (Y_lt rfl rfl) ?_
    refine TF_y rfl rfl (Y_move rfl) ?_
    refine TF_splitd 77 rfl (fun h77 => ?_) (fun h77 => ?_)
    · refine TF_gskip rfl rfl rfl rfl rfl ?_
      refine TF_y rfl rfl (Y_pick_t rfl rfl) ?_
      refine TF_nil ?_
      refine T_cond_true rfl ?_
      refine T_region_draw (cells b (raC s A c) 64 :: []) [0, 1, 3, 7, 0, 16, 63, 127] [] [(0, true), (1, true), (2, true), (3, true), (4, true), (5, false), (6, true), (7, false)] (by kernel_rfl) (by decide +kernel) GivesTo.g ?_
      refine TF_y rfl rfl (Y_move rfl) ?_
      refine TF_y rfl rfl (Y_nil_check rfl) ?_
      refine TF_y rfl rfl (Y_field_addr rfl) ?_
      refine TF_y rfl rfl (Y_load_agg rfl rfl) ?_
      refine TF_y rfl rfl (Y_field_addr rfl) ?_
      refine TF_anchor rfl ?_
      refine TL_store rfl rfl rfl rfl rfl rfl ?_
      refine TF_end GivesTo.g ?_
      refine TF_y rfl rfl (Y_field_addr rfl) ?_
      refine TF_anchor rfl ?_
      refine TL_store rfl rfl rfl rfl rfl rfl ?_
      refine TF_end GivesTo.g ?_
      refine TF_nil ?_
      refine T_region ?_
      refine TL_y rfl rfl (Y_load_agg rfl rfl) ?_
      refine TL_store rfl rfl rfl rfl rfl rfl ?_
      refine TL_y rfl rfl (Y_assign rfl) ?_
      refine TL_y rfl rfl (Y_assign rfl) ?_
      refine TL_nil ?_
      refine T_ret ?_
      refine thenS_ret ?_
      refine RetQ.gives (ra_close (A := A) (c := c) b s) ?_
      refine RetQ.gives (mL_nil (m := repM s m 5 s.prom []) rfl rfl rfl rfl) ?_
      exact RetG_3 (.inl rfl) rfl (ResV.agg rfl rfl) (ResV.tmp rfl) (ResV.tmp rfl) GivesTo.g (⟨mP0, rfl, rfl⟩)
    · refine TF_gy rfl rfl rfl rfl (Y_move rfl) ?_
      refine TF_name 78 (v' := .bool true) rfl (congrArg Value.bool (decide_eq_true (by rcases hn with h | h; exact absurd h h77; exact h))) ?_
      refine TF_y rfl rfl (Y_pick_f rfl rfl) ?_
      refine TF_nil ?_
      refine T_cond_true rfl ?_
      refine T_region_draw (cells b (raC s A c) 64 :: []) [0, 1, 3, 7, 0, 16, 63, 127] [] [(0, true), (1, true), (2, true), (3, true), (4, true), (5, false), (6, true), (7, false)] (by kernel_rfl) (by decide +kernel) GivesTo.g ?_
      refine TF_y rfl rfl (Y_move rfl) ?_
      refine TF_y rfl rfl (Y_nil_check rfl) ?_
      refine TF_y rfl rfl (Y_field_addr rfl) ?_
      refine TF_y rfl rfl (Y_load_agg rfl rfl) ?_
      refine TF_y rfl rfl (Y_field_addr rfl) ?_
      refine TF_anchor rfl ?_
      refine TL_store rfl rfl rfl rfl rfl rfl ?_
      refine TF_end GivesTo.g ?_
      refine TF_y rfl rfl (Y_field_addr rfl) ?_
      refine TF_anchor rfl ?_
      refine TL_store rfl rfl rfl rfl rfl rfl ?_
      refine TF_end GivesTo.g ?_
      refine TF_nil ?_
      refine T_region ?_
      refine TL_y rfl rfl (Y_load_agg rfl rfl) ?_
      refine TL_store rfl rfl rfl rfl rfl rfl ?_
      refine TL_y rfl rfl (Y_assign rfl) ?_
      refine TL_y rfl rfl (Y_assign rfl) ?_
      refine TL_nil ?_
      refine T_ret ?_
      refine thenS_ret ?_
      refine RetQ.gives (ra_close (A := A) (c := c) b s) ?_
      refine RetQ.gives (mL_nil (m := repM s m 5 s.prom []) rfl rfl rfl rfl) ?_
      exact RetG_3 (.inl rfl) rfl (ResV.agg rfl rfl) (ResV.tmp rfl) (ResV.tmp rfl) GivesTo.g (⟨mP0, rfl, rfl⟩)
set_option maxRecDepth 20000 in
theorem refOn_prep {L : List HP} {b : Nat} {s : AccD} (hi : AI s) (m : MsgD) (p : MsgP) (hx : MsgOk m) (hk : MsgK L m p) (hm : mineA s m) (hn : ¬ nackA s m) (h1 : m.kind = 1) : Fn Try.prog 29 #[.pointer (some ⟨b, 0, none⟩), msgV m p] (ra b s :: L) (fun v L' => ∃ q, v = .tuple #[msgV (repA s m) q, .string (recA s m), .bool (decide (mineA s m))] ∧ L' = mL (repA s m) q (ra b (stA s m) :: L)) := by
  have e1 : repA s m = repM s m 2 m.bal (aboveV s.V m.slot) := by unfold repA; rw [if_pos hm, if_neg hn, if_pos h1]
  have e3 : stA s m = ⟨s.node, m.bal, s.V⟩ := by unfold stA; rw [if_pos ⟨hm, hn⟩, if_pos h1]
  rw [e1, e3, decide_eq_true hm]
  refine Fn_enter Try.func29 rfl rfl rfl rfl ?_
  refine T_region ?_
  refine TL_box rfl rfl rfl ?_
  intro b3
  refine TL_alloc rfl rfl ?_
  intro b4
  refine TL_y rfl rfl (Y_assign rfl) ?_
  refine TL_y rfl rfl (Y_assign rfl) ?_
  refine TL_nil ?_
  refine T_region ?_
  refine TL_y rfl rfl (Y_load_agg rfl rfl) ?_
  refine TL_call rfl rfl (refMsg_spec m p hx hk.tail.tail.tail) ?_
  rintro _ _ ⟨A14, c14, rfl, rfl⟩
  refine TL_y rfl rfl (Y_move rfl) ?_
  refine TL_y rfl rfl (Y_extract rfl rfl) ?_
  refine TL_y rfl rfl (Y_extract rfl rfl) ?_
  refine TL_y rfl rfl (Y_assign rfl) ?_
  refine TL_y rfl rfl (Y_assign rfl) ?_
  refine TL_nil ?_
  refine T_seq ?_
  refine T_pullk b ?_
  refine T_ra fun A c hlc => ?_
  refine T_region_draw _ [0, 1, 3, 7, 15, 7, 39, 103, 231, 511, 1023, 2047, 4095, 8191, 16383, 32767, 65535, 131071, 262143, 524287, 1048575] [] [(0, true), (1, true), (2, true), (3, true), (4, true), (5, true), (6, true), (7, true), (8, true), (9, true), (10, true), (11, true), (12, true), (13, true), (14, true), (15, true), (16, true), (17, true), (18, true), (19, true), (20, true)] (by kernel_rfl) (by decide +kernel) (Gives.refl _) ?_
  refine TF_y rfl rfl (Y_move rfl) ?_
  refine TF_y rfl rfl (Y_ne rfl rfl) ?_
  refine TF_name 18 (v' := .bool false) rfl (congrArg Value.bool (decide_eq_false (by have := hm.1; omega))) ?_
  refine TF_y rfl rfl (Y_move rfl) ?_
  refine TF_gy rfl rfl rfl rfl (Y_field_addr rfl) ?_
  refine TF_gy rfl rfl rfl rfl (Y_load rfl rfl) ?_
  refine TF_gy rfl rfl rfl rfl (Y_move rfl) ?_
  refine TF_gy rfl rfl rfl rfl (Y_nil_check rfl) ?_
  refine TF_gy rfl rfl rfl rfl (Y_field_addr rfl) ?_
  refine TF_gy rfl rfl rfl rfl (Y_load rfl rfl) ?_
  refine TF_gy rfl rfl rfl rfl (Y_ne rfl rfl) ?_
  refine TF_name 26 (v' := .bool false) rfl (congrArg Value.bool (decide_eq_false (by have := hm.2.1; omega))) ?_
  refine TF_y rfl rfl (Y_pick_f rfl rfl) ?_
  refine TF_y rfl rfl (Y_move rfl) ?_
  refine TF_gy rfl rfl rfl rfl (Y_field_addr rfl) ?_
  refine TF_gy rfl rfl rfl rfl (Y_load rfl rfl) ?_
  refine TF_gy rfl rfl rfl rfl (Y_ne rfl rfl) ?_
  refine TF_name 31 (v' := .bool false) rfl (congrArg Value.bool (decide_eq_false (by omega))) ?_
  refine TF_gy rfl rfl rfl rfl (Y_move rfl) ?_
  refine TF_gskip rfl rfl rfl rfl rfl ?_
  refine TF_gskip rfl rfl rfl rfl rfl ?_
  refine TF_gskip rfl rfl rfl rfl rfl ?_
  refine TF_gy rfl rfl rfl rfl (Y_pick_f rfl rfl) ?_
  refine TF_y rfl rfl (Y_pick_f rfl rfl) ?_
  refine TF_nil ?_
  refine T_cond_false rfl ?_
  refine T_skip ?_
  refine thenS_normal ?_
  refine T_region_draw _ [0, 1, 3, 7, 0, 16, 0, 64, 0, 256, 0, 2047, 0, 8191] [] [(0, true), (1, true), (2, true), (3, true), (4, true), (5, true), (6, true), (7, true), (8, true), (9, true), (10, true), (11, true), (12, false), (13, false)] (by kernel_rfl) (by decide +kernel) (Gives.refl _) ?_
  refine TF_y rfl rfl (Y_move rfl) ?_
  refine TF_y rfl rfl (Y_nil_check rfl) ?_
  refine TF_y rfl rfl (Y_field_addr rfl) ?_
  refine TF_y rfl rfl (Y_load rfl rfl) ?_
  refine TF_y rfl rfl (Y_field_addr rfl) ?_
  refine TF_y rfl rfl (Y_load rfl rfl) ?_
  refine TF_y rfl rfl (Y_field_addr rfl) ?_
  refine TF_y rfl rfl (Y_load_agg rfl rfl) ?_
  refine TF_y rfl rfl (Y_field_addr rfl) ?_
  refine TF_y rfl rfl (Y_load rfl rfl) ?_
  refine TF_y rfl rfl (Y_build rfl rfl) ?_
  refine TF_y rfl rfl (Y_build rfl rfl) ?_
  refine TF_anchor rfl ?_
  refine TL_alloc rfl rfl ?_
  intro b9
  refine TF_end GivesTo.g ?_
  refine TF_anchor rfl ?_
  refine TL_store rfl rfl rfl rfl rfl rfl ?_
  refine TF_end GivesTo.g ?_
  refine TF_nil ?_
  refine T_region ?_
  refine TL_y rfl rfl (Y_field_addr rfl) ?_
  refine TL_y rfl rfl (Y_load rfl rfl) ?_
  refine TL_y rfl rfl (Y_eq rfl rfl) ?_
  refine TL_name 53 (v' := .bool false) rfl (congrArg Value.bool (decide_eq_false (by omega))) ?_
  refine TL_y rfl rfl (Y_move rfl) ?_
  refine TL_gskip rfl rfl rfl rfl ?_
  refine TL_gskip rfl rfl rfl rfl ?_
  refine TL_gskip rfl rfl rfl rfl ?_
  refine TL_gskip rfl rfl rfl rfl ?_
  refine TL_gskip rfl rfl rfl rfl ?_
  refine TL_y rfl rfl (Y_pick_f rfl rfl) ?_
  refine TL_y rfl rfl (Y_move rfl) ?_
  refine TL_gskip rfl rfl rfl rfl ?_
  refine TL_gskip rfl rfl rfl rfl ?_
  refine TL_gskip rfl rfl rfl rfl ?_
  refine TL_gskip rfl rfl rfl rfl ?_
  refine TL_gskip rfl rfl rfl rfl ?_
  refine TL_gskip rfl rfl rfl rfl ?_
  refine TL_y rfl rfl (Y_pick_f rfl rfl) ?_
  refine TL_y rfl rfl (Y_assign rfl) ?_
  refine TL_nil ?_
  refine T_seq ?_
  refine T_region_draw _ [0, 1, 0, 4, 12, 28, 63, 127, 255, 511, 1023] [] [(0, true), (1, true), (2, true), (3, true), (4, true), (5, true), (6, false), (7, true), (8, true), (9, true), (10, true)] (by kernel_rfl) (by decide +kernel) (Gives.refl _) ?_
  refine TF_y rfl rfl (Y_field_addr rfl) ?_
  refine TF_y rfl rfl (Y_load_agg rfl rfl) ?_
  refine TF_y rfl rfl (Y_move rfl) ?_
  refine TF_y rfl rfl (Y_nil_check rfl) ?_
  refine TF_y rfl rfl (Y_field_addr rfl) ?_
  refine TF_y rfl rfl (Y_load_agg rfl rfl) ?_
  refine TF_anchor rfl ?_
  refine TL_call rfl rfl (refCompare_spec m.bal s.prom _) ?_
  rintro _ _ ⟨rfl, rfl⟩
  refine TF_end GivesTo.g ?_
  refine TF_y rfl rfl (Y_lt rfl rfl) ?_
  refine TF_name 76 (v' := .bool false) rfl (congrArg Value.bool (decide_eq_false (fun h => hn (.inl h)))) ?_
  refine TF_y rfl rfl (Y_move rfl) ?_
  refine TF_gy rfl rfl rfl rfl (Y_move rfl) ?_
  refine TF_y rfl rfl (Y_pick_f rfl rfl) ?_
  refine TF_nil ?_
  refine T_cond_false rfl ?_
  refine T_skip ?_
  refine thenS_normal ?_
  refine T_region_draw _ [0, 1, 3, 7, 0, 16, 63, 127] [] [(0, true), (1, true), (2, true), (3, true), (4, true), (5, true), (6, true), (7, true)] (by kernel_rfl) (by decide +kernel) (Gives.refl _) ?_
  refine TF_y rfl rfl (Y_move rfl) ?_
  refine TF_y rfl rfl (Y_nil_check rfl) ?_
  refine TF_y rfl rfl (Y_field_addr rfl) ?_
  refine TF_y rfl rfl (Y_load_agg rfl rfl) ?_
  refine TF_y rfl rfl (Y_field_addr rfl) ?_
  refine TF_y rfl rfl (Y_load_agg rfl rfl) ?_
  refine TF_y rfl rfl (Y_ne_bal (a := s.prom) (b := m.bal) rfl rfl) ?_
  refine TF_name 93 (v' := .bool (decide (s.prom ≠ m.bal))) rfl (by by_cases h : s.prom = m.bal <;> simp [h]) ?_
  refine TF_y rfl rfl (Y_assign rfl) ?_
  refine TF_nil ?_
  refine T_region ?_
  refine TL_y rfl rfl (Y_move rfl) ?_
  refine TL_y rfl rfl (Y_field_addr rfl) ?_
  refine TL_y rfl rfl (Y_load_agg rfl rfl) ?_
  refine TL_y rfl rfl (Y_nil_check rfl) ?_
  refine TL_y rfl rfl (Y_field_addr rfl) ?_
  refine TL_store rfl rfl rfl rfl rfl rfl ?_
  refine TL_nil ?_
  refine T_seq ?_
  refine T_gives (ra_close (A := A) (c := c) b ⟨s.node, m.bal, s.V⟩) ?_
  refine T_region ?_
  refine TL_y rfl rfl (Y_field_addr rfl) ?_
  refine TL_y rfl rfl (Y_load rfl rfl) ?_
  refine TL_y rfl rfl (Y_eq rfl rfl) ?_
  refine TL_name 101 (v' := .bool true) rfl (congrArg Value.bool (decide_eq_true h1)) ?_
  refine TL_nil ?_
  refine T_cond_true rfl ?_
  refine T_region_last ?_
  refine TL_y rfl rfl (Y_move rfl) ?_
  refine TL_y rfl rfl (Y_field_addr rfl) ?_
  refine TL_y rfl rfl (Y_load rfl rfl) ?_
  refine TL_pullk b ?_
  refine TL_call rfl rfl (refAbove16_spec (s := ⟨s.node, m.bal, s.V⟩) hi.len m.slot) ?_
  rintro _ _ ⟨A105, c105, rfl, rfl⟩
  refine TL_freeze_osl ?_
  refine TL_y rfl rfl (Y_field_addr rfl) ?_
  refine TL_store rfl rfl rfl rfl rfl rfl ?_
  refine TL_y rfl rfl (Y_field_addr rfl) ?_
  refine TL_store rfl rfl rfl rfl rfl rfl ?_
  refine TL_nil ?_
  refine thenS_normal ?_
  refine T_seq ?_
  refine T_region ?_
  refine TL_y rfl rfl (Y_move rfl) ?_
  refine TL_y rfl rfl (Y_not_d rfl) ?_
  refine TL_nil ?_
  refine T_if rfl (fun h119 => ?_) (fun h119 => ?_)
  · refine T_region ?_
    refine TL_y rfl rfl (Y_load_agg rfl rfl) ?_
    refine TL_store rfl rfl rfl rfl rfl rfl ?_
    refine TL_y rfl rfl (Y_assign rfl) ?_
    refine TL_y rfl rfl (Y_assign rfl) ?_
    refine TL_nil ?_
    refine T_ret ?_
    refine thenS_ret ?_
    rw [show recA s m = ⟨#[]⟩ from rec_none.2 fun h => by rcases h.2.2 with h | ⟨h, _⟩; exact h119 h; omega]
    refine RetQ.gives (mL_voted (m := repM s m 2 m.bal (aboveV s.V m.slot)) rfl rfl rfl (slk (A := A105) (c := c105))) ?_
    exact RetG_3 (.inl rfl) rfl (ResV.agg rfl rfl) (ResV.tmp rfl) (ResV.tmp rfl) GivesTo.g (⟨⟨(none, 0), (A105, c105), (none, 0), (none, 0)⟩, rfl, rfl⟩)
  · refine T_skip ?_
    refine thenS_normal ?_
    refine T_region_draw (cells b9 [.int .i64 2, .int .i64 s.node, .int .i64 m.frm, .int .i64 m.bal.1, .int .i64 m.bal.2, .int .i64 m.slot, .bool true, .string ⟨#[]⟩, .string ⟨#[]⟩, .int .i64 0, .slice none 0 0, .slice A105 (aboveV s.V m.slot).length c105, .slice none 0 0, .slice none 0 0, .int .i64 0] 44 :: osl (intR .u8) 5 A14 c14 (outB (wMsg m ([], false))) :: []) [0, 0, 2, 1, 15, 31] [] [(0, true), (1, true), (2, true), (3, false), (4, true), (5, true)] (by kernel_rfl) (by decide +kernel) GivesTo.g ?_
    refine TF_y rfl rfl (Y_load_agg rfl rfl) ?_
    refine TF_y rfl rfl (Y_move rfl) ?_
    refine TF_y rfl rfl (Y_bytes_strN rfl sln) ?_
    refine TF_anchor rfl ?_
    refine TL_store rfl rfl rfl rfl rfl rfl ?_
    refine TF_end GivesTo.g ?_
    refine TF_y rfl rfl (Y_assign rfl) ?_
    refine TF_y rfl rfl (Y_assign rfl) ?_
    refine TF_nil ?_
    refine T_ret ?_
    rw [show recA s m = strOfNums (outB (wMsg m ([], false))) by unfold recA; rw [if_pos ⟨hm, hn, .inl (Classical.not_not.1 h119)⟩]]
    refine RetQ.gives (mL_voted (m := repM s m 2 m.bal (aboveV s.V m.slot)) rfl rfl rfl (slk (A := A105) (c := c105))) ?_
    exact RetG_3 (.inl rfl) rfl (ResV.agg rfl rfl) (ResV.tmp rfl) (ResV.tmp rfl) GivesTo.g (⟨⟨(none, 0), (A105, c105), (none, 0), (none, 0)⟩, rfl, rfl⟩)
set_option maxRecDepth 20000 in
theorem refOn_acc {L : List HP} {b : Nat} {s : AccD} (hi : AI s) (m : MsgD) (p : MsgP) (hx : MsgOk m) (hk : MsgK L m p) (hm : mineA s m) (hn : ¬ nackA s m) (h1 : ¬ m.kind = 1) : Fn Try.prog 29 #[.pointer (some ⟨b, 0, none⟩), msgV m p] (ra b s :: L) (fun v L' => ∃ q, v = .tuple #[msgV (repA s m) q, .string (recA s m), .bool (decide (mineA s m))] ∧ L' = mL (repA s m) q (ra b (stA s m) :: L)) := by
  have e1 : repA s m = repM s m 4 m.bal [] := by unfold repA; rw [if_pos hm, if_neg hn, if_neg h1]
  have e3 : stA s m = ⟨s.node, m.bal, putV s.V (newV m)⟩ := by unfold stA; rw [if_pos ⟨hm, hn⟩, if_neg h1]
  have h3 : m.kind = 3 := by rcases hm.2.2 with e | e; exact absurd e h1; exact e
  have hvo : votedOk (newV m) := ⟨hx.slot, hx.b1, hx.b2, hx.en⟩
  rw [e1, e3, decide_eq_true hm]
  refine Fn_enter Try.func29 rfl rfl rfl rfl ?_
  refine T_region ?_
  refine TL_box rfl rfl rfl ?_
  intro b3
  refine TL_alloc rfl rfl ?_
  intro b4
  refine TL_y rfl rfl (Y_assign rfl) ?_
  refine TL_y rfl rfl (Y_assign rfl) ?_
  refine TL_nil ?_
  refine T_region ?_
  refine TL_y rfl rfl (Y_load_agg rfl rfl) ?_
  refine TL_call rfl rfl (refMsg_spec m p hx hk.tail.tail.tail) ?_
  rintro _ _ ⟨A14, c14, rfl, rfl⟩
  refine TL_y rfl rfl (Y_move rfl) ?_
  refine TL_y rfl rfl (Y_extract rfl rfl) ?_
  refine TL_y rfl rfl (Y_extract rfl rfl) ?_
  refine TL_y rfl rfl (Y_assign rfl) ?_
  refine TL_y rfl rfl (Y_assign rfl) ?_
  refine TL_nil ?_
  refine T_seq ?_
  refine T_pullk b ?_
  refine T_ra fun A c hlc => ?_
  refine T_region_draw _ [0, 1, 3, 7, 15, 7, 39, 103, 231, 511, 1023, 2047, 4095, 8191, 16383, 32767, 65535, 131071, 262143, 524287, 1048575] [] [(0, true), (1, true), (2, true), (3, true), (4, true), (5, true), (6, true), (7, true), (8, true), (9, true), (10, true), (11, true), (12, true), (13, true), (14, true), (15, true), (16, true), (17, true), (18, true), (19, true), (20, true)] (by kernel_rfl) (by decide +kernel) (Gives.refl _) ?_
  refine TF_y rfl rfl (Y_move rfl) ?_
  refine TF_y rfl rfl (Y_ne rfl rfl) ?_
  refine TF_name 18 (v' := .bool false) rfl (congrArg Value.bool (decide_eq_false (by have := hm.1; omega))) ?_
  refine TF_y rfl rfl (Y_move rfl) ?_
  refine TF_gy rfl rfl rfl rfl (Y_field_addr rfl) ?_
  refine TF_gy rfl rfl rfl rfl (Y_load rfl rfl) ?_
  refine TF_gy rfl rfl rfl rfl (Y_move rfl) ?_
  refine TF_gy rfl rfl rfl rfl (Y_nil_check rfl) ?_
  refine TF_gy rfl rfl rfl rfl (Y_field_addr rfl) ?_
  refine TF_gy rfl rfl rfl rfl (Y_load rfl rfl) ?_
  refine TF_gy rfl rfl rfl rfl (Y_ne rfl rfl) ?_
  refine TF_name 26 (v' := .bool false) rfl (congrArg Value.bool (decide_eq_false (by have := hm.2.1; omega))) ?_
  refine TF_y rfl rfl (Y_pick_f rfl rfl) ?_
  refine TF_y rfl rfl (Y_move rfl) ?_
  refine TF_gy rfl rfl rfl rfl (Y_field_addr rfl) ?_
  refine TF_gy rfl rfl rfl rfl (Y_load rfl rfl) ?_
  refine TF_gy rfl rfl rfl rfl (Y_ne rfl rfl) ?_
  refine TF_name 31 (v' := .bool true) rfl (congrArg Value.bool (decide_eq_true (by omega))) ?_
  refine TF_gy rfl rfl rfl rfl (Y_move rfl) ?_
  refine TF_gy rfl rfl rfl rfl (Y_field_addr rfl) ?_
  refine TF_gy rfl rfl rfl rfl (Y_load rfl rfl) ?_
  refine TF_gy rfl rfl rfl rfl (Y_ne rfl rfl) ?_
  refine TF_name 35 (v' := .bool false) rfl (congrArg Value.bool (decide_eq_false (by omega))) ?_
  refine TF_gy rfl rfl rfl rfl (Y_pick_t rfl rfl) ?_
  refine TF_y rfl rfl (Y_pick_f rfl rfl) ?_
  refine TF_nil ?_
  refine T_cond_false rfl ?_
  refine T_skip ?_
  refine thenS_normal ?_
  refine T_region_draw _ [0, 1, 3, 7, 0, 16, 0, 64, 0, 256, 0, 2047, 0, 8191] [] [(0, true), (1, true), (2, true), (3, true), (4, true), (5, true), (6, true), (7, true), (8, true), (9, true), (10, true), (11, true), (12, false), (13, false)] (by kernel_rfl) (by decide +kernel) (Gives.refl _) ?_
  refine TF_y rfl rfl (Y_move rfl) ?_
  refine TF_y rfl rfl (Y_nil_check rfl) ?_
  refine TF_y rfl rfl (Y_field_addr rfl) ?_
  refine TF_y rfl rfl (Y_load rfl rfl) ?_
  refine TF_y rfl rfl (Y_field_addr rfl) ?_
  refine TF_y rfl rfl (Y_load rfl rfl) ?_
  refine TF_y rfl rfl (Y_field_addr rfl) ?_
  refine TF_y rfl rfl (Y_load_agg rfl rfl) ?_
  refine TF_y rfl rfl (Y_field_addr rfl) ?_
  refine TF_y rfl rfl (Y_load rfl rfl) ?_
  refine TF_y rfl rfl (Y_build rfl rfl) ?_
  refine TF_y rfl rfl (Y_build rfl rfl) ?_
  refine TF_anchor rfl ?_
  refine TL_alloc rfl rfl ?_
  intro b9
  refine TF_end GivesTo.g ?_
  refine TF_anchor rfl ?_
  refine TL_store rfl rfl rfl rfl rfl rfl ?_
  refine TF_end GivesTo.g ?_
  refine TF_nil ?_
  refine T_gives (ra_close (A := A) (c := c) b s) ?_
  refine T_region ?_
  refine TL_y rfl rfl (Y_field_addr rfl) ?_
  refine TL_y rfl rfl (Y_load rfl rfl) ?_
  refine TL_y rfl rfl (Y_eq rfl rfl) ?_
  refine TL_name 53 (v' := .bool true) rfl (congrArg Value.bool (decide_eq_true h3)) ?_
  refine TL_both 15 68 (False) ?_ ?_
  · refine TL_y rfl rfl (Y_move rfl) ?_
    refine TL_grun rfl rfl ?_
    refine TL_y rfl rfl (Y_move rfl) ?_
    refine TL_grun rfl rfl ?_
    refine TL_y rfl rfl (Y_field_addr rfl) ?_
    refine TL_grun rfl rfl ?_
    refine TL_y rfl rfl (Y_load rfl rfl) ?_
    refine TL_grun rfl rfl ?_
    refine TL_pullk b ?_
    refine TL_call rfl rfl (refFind16_spec m.slot) ?_
    rintro _ _ ⟨r, rfl, rfl, hr⟩
    refine TL_grun rfl rfl ?_
    refine TL_y rfl rfl (Y_lt rfl rfl) ?_
    refine TL_y rfl rfl (Y_pick_t rfl rfl) ?_
    refine TL_y rfl rfl (Y_move rfl) ?_
    refine TL_splitd 61 rfl (fun h61 => ?_) (fun h61 => ?_)
    · refine TL_grun rfl rfl ?_
      refine TL_y rfl rfl (Y_move rfl) ?_
      refine TL_grun rfl rfl ?_
      refine TL_y rfl rfl (Y_nil_check rfl) ?_
      refine TL_grun rfl rfl ?_
      refine TL_y rfl rfl (Y_field_addr rfl) ?_
      refine TL_grun rfl rfl ?_
      refine TL_pullk b ?_
      refine TL_ra fun A2 c2 hlc2 => ?_
      refine TL_y rfl rfl (Y_load rfl rfl) ?_
      refine TL_grun rfl rfl ?_
      refine TL_y rfl rfl (Y_len rfl) ?_
      refine TL_gives (ra_close (A := A2) (c := c2) b s) ?_
      refine TL_grun rfl rfl ?_
      refine TL_y rfl rfl (Y_ge rfl rfl) ?_
      refine TL_y rfl rfl (Y_pick_t rfl rfl) ?_
      refine TL_chain_end rfl ?_ (by repeat (first | exact sub_refl | refine sub_ext rfl ?_)) GivesTo.g
      exact congrArg Value.bool (decide_eq_decide.2 (iff_of_false (fun h => hn (.inr ⟨h3, by rcases hr with ⟨_, h2⟩ | ⟨i, u, h2, _, _⟩; exact h2; omega, by omega⟩)) id))
    · refine TL_gskip rfl rfl rfl rfl ?_
      refine TL_gskip rfl rfl rfl rfl ?_
      refine TL_gskip rfl rfl rfl rfl ?_
      refine TL_gskip rfl rfl rfl rfl ?_
      refine TL_gskip rfl rfl rfl rfl ?_
      refine TL_gskip rfl rfl rfl rfl ?_
      refine TL_y rfl rfl (Y_pick_f rfl rfl) ?_
      refine TL_chain_end rfl ?_ (by repeat (first | exact sub_refl | refine sub_ext rfl ?_)) GivesTo.g
      exact congrArg Value.bool (decide_eq_false (id)).symm
  refine TL_y rfl rfl (Y_assign rfl) ?_
  refine TL_nil ?_
  refine T_seq ?_
  refine T_pullk b ?_
  refine T_ra fun A c hlc => ?_
  refine T_region_draw _ [0, 1, 0, 4, 12, 28, 63, 127, 255, 511, 1023] [] [(0, true), (1, true), (2, true), (3, true), (4, true), (5, true), (6, false), (7, true), (8, true), (9, true), (10, true)] (by kernel_rfl) (by decide +kernel) (Gives.refl _) ?_
  refine TF_y rfl rfl (Y_field_addr rfl) ?_
  refine TF_y rfl rfl (Y_load_agg rfl rfl) ?_
  refine TF_y rfl rfl (Y_move rfl) ?_
  refine TF_y rfl rfl (Y_nil_check rfl) ?_
  refine TF_y rfl rfl (Y_field_addr rfl) ?_
  refine TF_y rfl rfl (Y_load_agg rfl rfl) ?_
  refine TF_anchor rfl ?_
  refine TL_call rfl rfl (refCompare_spec m.bal s.prom _) ?_
  rintro _ _ ⟨rfl, rfl⟩
  refine TF_end GivesTo.g ?_
  refine TF_y rfl rfl (Y_lt rfl rfl) ?_
  refine TF_name 76 (v' := .bool false) rfl (congrArg Value.bool (decide_eq_false (fun h => hn (.inl h)))) ?_
  refine TF_y rfl rfl (Y_move rfl) ?_
  refine TF_gy rfl rfl rfl rfl (Y_move rfl) ?_
  refine TF_name 78 (v' := .bool false) rfl (congrArg Value.bool (by simp)) ?_
  refine TF_y rfl rfl (Y_pick_f rfl rfl) ?_
  refine TF_nil ?_
  refine T_cond_false rfl ?_
  refine T_skip ?_
  refine thenS_normal ?_
  refine T_region_draw _ [0, 1, 3, 7, 0, 16, 63, 127] [] [(0, true), (1, true), (2, true), (3, true), (4, true), (5, true), (6, true), (7, true)] (by kernel_rfl) (by decide +kernel) (Gives.refl _) ?_
  refine TF_y rfl rfl (Y_move rfl) ?_
  refine TF_y rfl rfl (Y_nil_check rfl) ?_
  refine TF_y rfl rfl (Y_field_addr rfl) ?_
  refine TF_y rfl rfl (Y_load_agg rfl rfl) ?_
  refine TF_y rfl rfl (Y_field_addr rfl) ?_
  refine TF_y rfl rfl (Y_load_agg rfl rfl) ?_
  refine TF_y rfl rfl (Y_ne_bal (a := s.prom) (b := m.bal) rfl rfl) ?_
  refine TF_name 93 (v' := .bool (decide (s.prom ≠ m.bal))) rfl (by by_cases h : s.prom = m.bal <;> simp [h]) ?_
  refine TF_y rfl rfl (Y_assign rfl) ?_
  refine TF_nil ?_
  refine T_region ?_
  refine TL_y rfl rfl (Y_move rfl) ?_
  refine TL_y rfl rfl (Y_field_addr rfl) ?_
  refine TL_y rfl rfl (Y_load_agg rfl rfl) ?_
  refine TL_y rfl rfl (Y_nil_check rfl) ?_
  refine TL_y rfl rfl (Y_field_addr rfl) ?_
  refine TL_store rfl rfl rfl rfl rfl rfl ?_
  refine TL_nil ?_
  refine T_seq ?_
  refine T_gives (ra_close (A := A) (c := c) b ⟨s.node, m.bal, s.V⟩) ?_
  refine T_region ?_
  refine TL_y rfl rfl (Y_field_addr rfl) ?_
  refine TL_y rfl rfl (Y_load rfl rfl) ?_
  refine TL_y rfl rfl (Y_eq rfl rfl) ?_
  refine TL_name 101 (v' := .bool false) rfl (congrArg Value.bool (decide_eq_false h1)) ?_
  refine TL_nil ?_
  refine T_cond_false rfl ?_
  refine T_region ?_
  refine TL_y rfl rfl (Y_field_addr rfl) ?_
  refine TL_store rfl rfl rfl rfl rfl rfl ?_
  refine TL_nil ?_
  refine T_region ?_
  refine TL_y rfl rfl (Y_move rfl) ?_
  refine TL_y rfl rfl (Y_field_addr rfl) ?_
  refine TL_y rfl rfl (Y_load rfl rfl) ?_
  refine TL_y rfl rfl (Y_field_addr rfl) ?_
  refine TL_y rfl rfl (Y_load_agg rfl rfl) ?_
  refine TL_y rfl rfl (Y_field_addr rfl) ?_
  refine TL_y rfl rfl (Y_load_agg rfl rfl) ?_
  refine TL_y rfl rfl (Y_build rfl rfl) ?_
  refine TL_pullk b ?_
  refine TL_call rfl rfl (refVote_spec (s := ⟨s.node, m.bal, s.V⟩) (newV m) p.cut hi.inc hi.len hvo (SlK.of_gives GivesTo.g hk.cut)) ?_
  rintro _ _ ⟨rfl, rfl⟩
  refine TL_nil ?_
  refine T_if rfl (fun h117 => ?_) (fun h117 => ?_)
  · refine T_region_last ?_
    refine TL_y rfl rfl (Y_assign rfl) ?_
    refine TL_nil ?_
    refine thenS_normal ?_
    refine T_seq ?_
    refine T_region ?_
    refine TL_y rfl rfl (Y_move rfl) ?_
    refine TL_y rfl rfl (Y_not_t rfl) ?_
    refine TL_nil ?_
    refine T_cond_false rfl ?_
    refine T_skip ?_
    refine thenS_normal ?_
    refine T_region_draw (cells b9 [.int .i64 4, .int .i64 s.node, .int .i64 m.frm, .int .i64 m.bal.1, .int .i64 m.bal.2, .int .i64 m.slot, .bool true, .string ⟨#[]⟩, .string ⟨#[]⟩, .int .i64 0, .slice none 0 0, .slice none 0 0, .slice none 0 0, .slice none 0 0, .int .i64 0] 44 :: osl (intR .u8) 5 A14 c14 (outB (wMsg m ([], false))) :: []) [0, 0, 2, 1, 15, 31] [] [(0, true), (1, true), (2, true), (3, false), (4, true), (5, true)] (by kernel_rfl) (by decide +kernel) GivesTo.g ?_
    refine TF_y rfl rfl (Y_load_agg rfl rfl) ?_
    refine TF_y rfl rfl (Y_move rfl) ?_
    refine TF_y rfl rfl (Y_bytes_strN rfl sln) ?_
    refine TF_anchor rfl ?_
    refine TL_store rfl rfl rfl rfl rfl rfl ?_
    refine TF_end GivesTo.g ?_
    refine TF_y rfl rfl (Y_assign rfl) ?_
    refine TF_y rfl rfl (Y_assign rfl) ?_
    refine TF_nil ?_
    refine T_ret ?_
    rw [show recA s m = strOfNums (outB (wMsg m ([], false))) by unfold recA; rw [if_pos ⟨hm, hn, .inr ⟨h3, h117⟩⟩]]
    refine RetQ.gives (mL_nil (m := repM s m 4 m.bal []) rfl rfl rfl rfl) ?_
    exact RetG_3 (.inl rfl) rfl (ResV.agg rfl rfl) (ResV.tmp rfl) (ResV.tmp rfl) GivesTo.g (⟨mP0, rfl, rfl⟩)
  · refine T_skip ?_
    refine thenS_normal ?_
    refine T_seq ?_
    refine T_region ?_
    refine TL_y rfl rfl (Y_move rfl) ?_
    refine TL_y rfl rfl (Y_not_d rfl) ?_
    refine TL_nil ?_
    refine T_if rfl (fun h119 => ?_) (fun h119 => ?_)
    · refine T_region ?_
      refine TL_y rfl rfl (Y_load_agg rfl rfl) ?_
      refine TL_store rfl rfl rfl rfl rfl rfl ?_
      refine TL_y rfl rfl (Y_assign rfl) ?_
      refine TL_y rfl rfl (Y_assign rfl) ?_
      refine TL_nil ?_
      refine T_ret ?_
      refine thenS_ret ?_
      rw [show recA s m = ⟨#[]⟩ from rec_none.2 fun h => by rcases h.2.2 with h | ⟨_, h⟩; exact h119 h; exact h117 h]
      refine RetQ.gives (mL_nil (m := repM s m 4 m.bal []) rfl rfl rfl rfl) ?_
      exact RetG_3 (.inl rfl) rfl (ResV.agg rfl rfl) (ResV.tmp rfl) (ResV.tmp rfl) GivesTo.g (⟨mP0, rfl, rfl⟩)
    · refine T_skip ?_
      refine thenS_normal ?_
      refine T_region_draw (cells b9 [.int .i64 4, .int .i64 s.node, .int .i64 m.frm, .int .i64 m.bal.1, .int .i64 m.bal.2, .int .i64 m.slot, .bool true, .string ⟨#[]⟩, .string ⟨#[]⟩, .int .i64 0, .slice none 0 0, .slice none 0 0, .slice none 0 0, .slice none 0 0, .int .i64 0] 44 :: osl (intR .u8) 5 A14 c14 (outB (wMsg m ([], false))) :: []) [0, 0, 2, 1, 15, 31] [] [(0, true), (1, true), (2, true), (3, false), (4, true), (5, true)] (by kernel_rfl) (by decide +kernel) GivesTo.g ?_
      refine TF_y rfl rfl (Y_load_agg rfl rfl) ?_
      refine TF_y rfl rfl (Y_move rfl) ?_
      refine TF_y rfl rfl (Y_bytes_strN rfl sln) ?_
      refine TF_anchor rfl ?_
      refine TL_store rfl rfl rfl rfl rfl rfl ?_
      refine TF_end GivesTo.g ?_
      refine TF_y rfl rfl (Y_assign rfl) ?_
      refine TF_y rfl rfl (Y_assign rfl) ?_
      refine TF_nil ?_
      refine T_ret ?_
      rw [show recA s m = strOfNums (outB (wMsg m ([], false))) by unfold recA; rw [if_pos ⟨hm, hn, .inl (Classical.not_not.1 h119)⟩]]
      refine RetQ.gives (mL_nil (m := repM s m 4 m.bal []) rfl rfl rfl rfl) ?_
      exact RetG_3 (.inl rfl) rfl (ResV.agg rfl rfl) (ResV.tmp rfl) (ResV.tmp rfl) GivesTo.g (⟨mP0, rfl, rfl⟩)
theorem refOn16_spec {L : List HP} {b : Nat} {s : AccD} (hi : AI s) (m : MsgD) (p : MsgP) (hx : MsgOk m) (hk : MsgK L m p) : Fn Try.prog 29 #[.pointer (some ⟨b, 0, none⟩), msgV m p] (ra b s :: L) (fun v L' => ∃ q, v = .tuple #[msgV (repA s m) q, .string (recA s m), .bool (decide (mineA s m))] ∧ L' = mL (repA s m) q (ra b (stA s m) :: L)) := by
  by_cases hm : mineA s m
  · by_cases hn : nackA s m
    · exact refOn_nack m p hx hk hm hn
    · by_cases h1 : m.kind = 1
      · exact refOn_prep hi m p hx hk hm hn h1
      · exact refOn_acc hi m p hx hk hm hn h1
  · exact refOn_bad m p hx hk hm
end Go.SL
set_option linter.unusedVariables false
set_option linter.unusedSimpArgs false
namespace Go.SL
open Go Go.Proofs
structure DsSt where
  i : Nat
  s : AccD
  b : Nat
theorem acceptorDoes_bad {L : List HP} {A A2 : Option Addr} {c c2 : Nat} {l : List MsgD} {drops : List Int} (node : Int) (hnode : ¬ (0 ≤ node ∧ node ≤ 6)) : Fn Try.prog 6 #[.int .i64 node, .slice A l.length c, .slice A2 drops.length c2] L (fun v L' => v = .bool true ∧ L' = L) := by
  refine Fn_enter Try.func6 rfl rfl rfl rfl ?_
  refine T_gives (slnil.lay (R := intR .i64) (A := none) (c := 0)) ?_
  refine T_region ?_
  refine TL_y rfl rfl (Y_assign rfl) ?_
  refine TL_nil ?_
  refine T_region ?_
  refine TL_y rfl rfl (Y_move rfl) ?_
  refine TL_call rfl rfl (acNew_bad node hnode _) ?_
  rintro _ _ ⟨rfl, rfl⟩
  refine TL_y rfl rfl (Y_move rfl) ?_
  refine TL_y rfl rfl (Y_extract rfl rfl) ?_
  refine TL_y rfl rfl (Y_extract rfl rfl) ?_
  refine TL_y rfl rfl (Y_assign rfl) ?_
  refine TL_y rfl rfl (Y_assign rfl) ?_
  refine TL_nil ?_
  refine T_region ?_
  refine TL_y rfl rfl (Y_move rfl) ?_
  refine TL_call rfl rfl (refAcNew_bad node hnode _) ?_
  rintro _ _ ⟨rfl, rfl⟩
  refine TL_y rfl rfl (Y_move rfl) ?_
  refine TL_y rfl rfl (Y_extract rfl rfl) ?_
  refine TL_y rfl rfl (Y_extract rfl rfl) ?_
  refine TL_y rfl rfl (Y_assign rfl) ?_
  refine TL_y rfl rfl (Y_assign rfl) ?_
  refine TL_nil ?_
  refine T_seq ?_
  refine T_region ?_
  refine TL_call rfl rfl (lives16_spec _) ?_
  rintro _ _ ⟨rfl, rfl⟩
  refine TL_name 31 (v' := .bool true) rfl (rfl) ?_
  refine TL_y rfl rfl (Y_not_t rfl) ?_
  refine TL_y rfl rfl (Y_move rfl) ?_
  refine TL_grun rfl rfl ?_
  refine TL_y rfl rfl (Y_move rfl) ?_
  refine TL_grun rfl rfl ?_
  refine TL_y rfl rfl (Y_move rfl) ?_
  refine TL_grun rfl rfl ?_
  refine TL_y rfl rfl (Y_ne rfl rfl) ?_
  refine TL_name 36 (v' := .bool false) rfl (congrArg Value.bool (decide_eq_false (by decide))) ?_
  refine TL_y rfl rfl (Y_pick_f rfl rfl) ?_
  refine TL_y rfl rfl (Y_move rfl) ?_
  refine TL_grun rfl rfl ?_
  refine TL_y rfl rfl (Y_move rfl) ?_
  refine TL_grun rfl rfl ?_
  refine TL_y rfl rfl (Y_equal rfl rfl (EqIs.ptr_nil)) ?_
  refine TL_name 40 (v' := .bool true) rfl (by simp) ?_
  refine TL_grun rfl rfl ?_
  refine TL_y rfl rfl (Y_move rfl) ?_
  refine TL_grun rfl rfl ?_
  refine TL_y rfl rfl (Y_equal rfl rfl (EqIs.ptr_nil)) ?_
  refine TL_name 42 (v' := .bool true) rfl (by simp) ?_
  refine TL_grun rfl rfl ?_
  refine TL_y rfl rfl (Y_unequal rfl rfl (EqIs.bool)) ?_
  refine TL_name 43 (v' := .bool false) rfl (rfl) ?_
  refine TL_y rfl rfl (Y_pick_f rfl rfl) ?_
  refine TL_nil ?_
  refine T_cond_false rfl ?_
  refine T_skip ?_
  refine thenS_normal ?_
  refine T_seq ?_
  refine T_region ?_
  refine TL_y rfl rfl (Y_assign rfl) ?_
  refine TL_nil ?_
  refine T_block ?_
  refine T_loopK (σ := Unit) [1, 2, 9] (fun g => True) (fun g kv => (11, .int .i64 0) :: (7, .pointer none) :: kv) (fun g => sl (intR .i64) none 0 [] :: L) (fun g => 0) (()) rfl (trivial) (GivesTo.g) (sub_cons rfl (sub_cons rfl (sub_cons rfl (sub_cons rfl (sub_cons rfl (sub_nil)))))) ?_
  intro g hg
  refine T_seq ?_
  refine T_region ?_
  refine TL_y rfl rfl (Y_move rfl) ?_
  refine TL_y rfl rfl (Y_move rfl) ?_
  refine TL_y rfl rfl (Y_len rfl) ?_
  refine TL_y rfl rfl (Y_lt rfl rfl) ?_
  refine TL_y rfl rfl (Y_move rfl) ?_
  refine TL_splitd 49 rfl (fun h49 => ?_) (fun h49 => ?_)
  · refine TL_grun rfl rfl ?_
    refine TL_y rfl rfl (Y_move rfl) ?_
    refine TL_grun rfl rfl ?_
    refine TL_y rfl rfl (Y_unequal rfl rfl (EqIs.ptr_nil)) ?_
    refine TL_name 51 (v' := .bool false) rfl (rfl) ?_
    refine TL_y rfl rfl (Y_pick_t rfl rfl) ?_
    refine TL_nil ?_
    refine T_cond_false rfl ?_
    refine T_exit ?_
    refine thenS_exit ?_
    refine thenS_exit ?_
    refine inB_hit ?_
    refine thenS_normal ?_
    refine T_region ?_
    refine TL_y rfl rfl (Y_assign rfl) ?_
    refine TL_nil ?_
    refine T_ret ?_
    exact RetG_1 (.inl rfl) rfl (ResV.tmp rfl) GivesTo.g (⟨rfl, rfl⟩)
  · refine TL_gskip rfl rfl rfl rfl ?_
    refine TL_gskip rfl rfl rfl rfl ?_
    refine TL_y rfl rfl (Y_pick_f rfl rfl) ?_
    refine TL_nil ?_
    refine T_cond_false rfl ?_
    refine T_exit ?_
    refine thenS_exit ?_
    refine thenS_exit ?_
    refine inB_hit ?_
    refine thenS_normal ?_
    refine T_region ?_
    refine TL_y rfl rfl (Y_assign rfl) ?_
    refine TL_nil ?_
    refine T_ret ?_
    exact RetG_1 (.inl rfl) rfl (ResV.tmp rfl) GivesTo.g (⟨rfl, rfl⟩)
theorem acceptorDoes_ok {L : List HP} {A A2 : Option Addr} {c c2 : Nat} {l : List MsgD} {drops : List Int} (node : Int) (hnode : 0 ≤ node ∧ node ≤ 6) (hk : SlK L msgR A c l) (hk2 : SlK L (intR .i64) A2 c2 drops) (hb : ∀ m ∈ l, cMsg m ≤ 140737488355328) (hl : l.length ≤ 281474976710656) : Fn Try.prog 6 #[.int .i64 node, .slice A l.length c, .slice A2 drops.length c2] L (fun v L' => v = .bool true ∧ L' = L) := by
  refine Fn_enter Try.func6 rfl rfl rfl rfl ?_
  refine T_gives hk2.lay ?_
  refine T_gives hk.tail.lay ?_
  refine T_region ?_
  refine TL_y rfl rfl (Y_assign rfl) ?_
  refine TL_nil ?_
  refine T_region ?_
  refine TL_y rfl rfl (Y_move rfl) ?_
  refine TL_call rfl rfl (acNew_ok node hnode _) ?_
  rintro _ _ ⟨b0, rfl, rfl⟩
  refine TL_y rfl rfl (Y_move rfl) ?_
  refine TL_y rfl rfl (Y_extract rfl rfl) ?_
  refine TL_y rfl rfl (Y_extract rfl rfl) ?_
  refine TL_y rfl rfl (Y_assign rfl) ?_
  refine TL_y rfl rfl (Y_assign rfl) ?_
  refine TL_nil ?_
  refine T_region ?_
  refine TL_y rfl rfl (Y_move rfl) ?_
  refine TL_call rfl rfl (refAcNew_ok node hnode _) ?_
  rintro _ _ ⟨bx, rfl, rfl⟩
  refine TL_y rfl rfl (Y_move rfl) ?_
  refine TL_y rfl rfl (Y_extract rfl rfl) ?_
  refine TL_y rfl rfl (Y_extract rfl rfl) ?_
  refine TL_y rfl rfl (Y_assign rfl) ?_
  refine TL_y rfl rfl (Y_assign rfl) ?_
  refine TL_nil ?_
  refine T_seq ?_
  refine T_region ?_
  refine TL_call rfl rfl (lives16_spec _) ?_
  rintro _ _ ⟨rfl, rfl⟩
  refine TL_name 31 (v' := .bool true) rfl (rfl) ?_
  refine TL_y rfl rfl (Y_not_t rfl) ?_
  refine TL_y rfl rfl (Y_move rfl) ?_
  refine TL_grun rfl rfl ?_
  refine TL_y rfl rfl (Y_move rfl) ?_
  refine TL_grun rfl rfl ?_
  refine TL_y rfl rfl (Y_move rfl) ?_
  refine TL_grun rfl rfl ?_
  refine TL_y rfl rfl (Y_ne rfl rfl) ?_
  refine TL_name 36 (v' := .bool false) rfl (congrArg Value.bool (decide_eq_false (by decide))) ?_
  refine TL_y rfl rfl (Y_pick_f rfl rfl) ?_
  refine TL_y rfl rfl (Y_move rfl) ?_
  refine TL_grun rfl rfl ?_
  refine TL_y rfl rfl (Y_move rfl) ?_
  refine TL_grun rfl rfl ?_
  refine TL_y rfl rfl (Y_equal rfl rfl (EqIs.ptr_nil)) ?_
  refine TL_name 40 (v' := .bool false) rfl (by simp) ?_
  refine TL_grun rfl rfl ?_
  refine TL_y rfl rfl (Y_move rfl) ?_
  refine TL_grun rfl rfl ?_
  refine TL_y rfl rfl (Y_equal rfl rfl (EqIs.ptr_nil)) ?_
  refine TL_name 42 (v' := .bool false) rfl (by simp) ?_
  refine TL_grun rfl rfl ?_
  refine TL_y rfl rfl (Y_unequal rfl rfl (EqIs.bool)) ?_
  refine TL_name 43 (v' := .bool false) rfl (rfl) ?_
  refine TL_y rfl rfl (Y_pick_f rfl rfl) ?_
  refine TL_nil ?_
  refine T_cond_false rfl ?_
  refine T_skip ?_
  refine thenS_normal ?_
  refine T_seq ?_
  refine T_region ?_
  refine TL_y rfl rfl (Y_assign rfl) ?_
  refine TL_nil ?_
  refine T_block ?_
  refine T_loopK (σ := DsSt) [1, 2, 9] (fun g => g.i ≤ l.length) (fun g kv => (11, .int .i64 (g.i : Int)) :: (7, .pointer (some ⟨g.b, 0, none⟩)) :: kv) (fun g => ac g.b g.s :: ra bx g.s :: sl msgR A c l :: sl (intR .i64) A2 c2 drops :: L) (fun g => l.length - g.i) (⟨0, acNew node, b0⟩) rfl (Nat.zero_le _) (GivesTo.g) (sub_cons rfl (sub_cons rfl (sub_cons rfl (sub_cons rfl (sub_cons rfl (sub_nil)))))) ?_
  rintro ⟨i, s, ba⟩ hil
  dsimp only at hil ⊢
  refine T_seq ?_
  refine T_region ?_
  refine TL_y rfl rfl (Y_move rfl) ?_
  refine TL_y rfl rfl (Y_move rfl) ?_
  refine TL_y rfl rfl (Y_len rfl) ?_
  refine TL_y rfl rfl (Y_lt rfl rfl) ?_
  refine TL_y rfl rfl (Y_move rfl) ?_
  refine TL_splitd 49 rfl (fun h49 => ?_) (fun h49 => ?_)
  · refine TL_grun rfl rfl ?_
    refine TL_y rfl rfl (Y_move rfl) ?_
    refine TL_grun rfl rfl ?_
    refine TL_y rfl rfl (Y_unequal rfl rfl (EqIs.ptr_nil)) ?_
    refine TL_name 51 (v' := .bool true) rfl (rfl) ?_
    refine TL_y rfl rfl (Y_pick_t rfl rfl) ?_
    refine TL_nil ?_
    refine T_cond_true rfl ?_
    refine T_skip ?_
    refine thenS_normal ?_
    refine T_seq ?_
    refine T_block ?_
    obtain ⟨m, hm⟩ : ∃ m, l[i]? = some m := ⟨_, List.getElem?_eq_getElem (by omega)⟩
    have hmb := hb m (List.mem_of_getElem? hm)
    refine T_acI fun hi => ?_
    have hi2 := fun h => hi.step (m := m) h
    refine T_region ?_
    refine TL_y rfl rfl (Y_move rfl) ?_
    refine TL_y rfl rfl (Y_move rfl) ?_
    refine TL_y rfl rfl (Y_move rfl) ?_
    refine TL_index_n rfl rfl rfl (rfl) ((sln (A := A) (c := c))) (hm) ?_
    intro bn59 on59 hA59 hk59
    have hu59 := hm
    refine TL_load_nx rfl rfl hk59 hu59 (fun _ => rfl) ?_
    intro p60 ok60
    simp only [List.cons_append, List.nil_append]
    refine TL_pullk ba ?_
    refine TL_call rfl rfl (acWould_spec m p60 ok60 ⟨slk, slk, slk, slk⟩ hmb) ?_
    rintro _ _ ⟨rfl, rfl⟩
    refine TL_y rfl rfl (Y_move rfl) ?_
    refine TL_y rfl rfl (Y_extract rfl rfl) ?_
    refine TL_y rfl rfl (Y_extract rfl rfl) ?_
    refine TL_y rfl rfl (Y_assign rfl) ?_
    refine TL_y rfl rfl (Y_assign rfl) ?_
    refine TL_nil ?_
    refine T_region ?_
    refine TL_y rfl rfl (Y_move rfl) ?_
    refine TL_y rfl rfl (Y_move rfl) ?_
    refine TL_y rfl rfl (Y_move rfl) ?_
    refine TL_index_n rfl rfl rfl (rfl) ((sln (A := A) (c := c))) (hm) ?_
    intro bn68 on68 hA68 hk68
    have hu68 := hm
    refine TL_load_nx rfl rfl hk68 hu68 (fun _ => rfl) ?_
    intro p69 ok69
    simp only [List.cons_append, List.nil_append]
    refine TL_pullk ba ?_
    refine TL_call rfl rfl (acOn_spec m p69 ok69 ⟨slk, slk, slk, slk⟩ hmb) ?_
    rintro _ _ ⟨q, rfl, rfl⟩
    refine TL_y rfl rfl (Y_move rfl) ?_
    refine TL_y rfl rfl (Y_extract rfl rfl) ?_
    refine TL_y rfl rfl (Y_extract rfl rfl) ?_
    refine TL_y rfl rfl (Y_extract rfl rfl) ?_
    refine TL_alloc rfl rfl ?_
    intro b14
    refine TL_store rfl rfl rfl rfl rfl rfl ?_
    refine TL_y rfl rfl (Y_assign rfl) ?_
    refine TL_y rfl rfl (Y_assign rfl) ?_
    refine TL_nil ?_
    refine T_region ?_
    refine TL_y rfl rfl (Y_move rfl) ?_
    refine TL_y rfl rfl (Y_move rfl) ?_
    refine TL_y rfl rfl (Y_move rfl) ?_
    refine TL_index_n rfl rfl rfl (rfl) ((sln (A := A) (c := c))) (hm) ?_
    intro bn78 on78 hA78 hk78
    have hu78 := hm
    refine TL_load_nx rfl rfl hk78 hu78 (fun _ => rfl) ?_
    intro p79 ok79
    simp only [List.cons_append, List.nil_append]
    refine TL_pullk bx ?_
    refine TL_call rfl rfl (refOn16_spec hi m p79 ok79 ⟨slk, slk, slk, slk⟩) ?_
    rintro _ _ ⟨qx, rfl, rfl⟩
    refine TL_y rfl rfl (Y_move rfl) ?_
    refine TL_y rfl rfl (Y_extract rfl rfl) ?_
    refine TL_y rfl rfl (Y_extract rfl rfl) ?_
    refine TL_y rfl rfl (Y_extract rfl rfl) ?_
    refine TL_alloc rfl rfl ?_
    intro b17
    refine TL_store rfl rfl rfl rfl rfl rfl ?_
    refine TL_y rfl rfl (Y_assign rfl) ?_
    refine TL_y rfl rfl (Y_assign rfl) ?_
    refine TL_nil ?_
    refine T_seq ?_
    refine T_region ?_
    refine TL_y rfl rfl (Y_load_agg rfl rfl) ?_
    refine TL_y rfl rfl (Y_load_agg rfl rfl) ?_
    refine TL_call rfl rfl (sameMsg_spec (repA s m) (repA s m) q qx ⟨slk, slk, slk, slk⟩ ⟨slk, slk, slk, slk⟩) ?_
    rintro _ _ ⟨rfl, rfl⟩
    refine TL_name 86 (v' := .bool true) rfl (congrArg Value.bool (by simp)) ?_
    refine TL_y rfl rfl (Y_not_t rfl) ?_
    refine TL_y rfl rfl (Y_move rfl) ?_
    refine TL_grun rfl rfl ?_
    refine TL_y rfl rfl (Y_move rfl) ?_
    refine TL_grun rfl rfl ?_
    refine TL_y rfl rfl (Y_move rfl) ?_
    refine TL_grun rfl rfl ?_
    refine TL_y rfl rfl (Y_str_ne rfl rfl) ?_
    refine TL_name 91 (v' := .bool false) rfl (congrArg Value.bool (by simp)) ?_
    refine TL_y rfl rfl (Y_pick_f rfl rfl) ?_
    refine TL_y rfl rfl (Y_move rfl) ?_
    refine TL_grun rfl rfl ?_
    refine TL_y rfl rfl (Y_move rfl) ?_
    refine TL_grun rfl rfl ?_
    refine TL_y rfl rfl (Y_move rfl) ?_
    refine TL_grun rfl rfl ?_
    refine TL_y rfl rfl (Y_unequal rfl rfl (EqIs.bool)) ?_
    refine TL_name 96 (v' := .bool false) rfl (congrArg Value.bool (by simp)) ?_
    refine TL_y rfl rfl (Y_pick_f rfl rfl) ?_
    refine TL_y rfl rfl (Y_move rfl) ?_
    refine TL_grun rfl rfl ?_
    refine TL_y rfl rfl (Y_move rfl) ?_
    refine TL_grun rfl rfl ?_
    refine TL_y rfl rfl (Y_move rfl) ?_
    refine TL_grun rfl rfl ?_
    refine TL_y rfl rfl (Y_str_ne rfl rfl) ?_
    refine TL_name 101 (v' := .bool false) rfl (congrArg Value.bool (by simp)) ?_
    refine TL_y rfl rfl (Y_pick_f rfl rfl) ?_
    refine TL_y rfl rfl (Y_move rfl) ?_
    refine TL_grun rfl rfl ?_
    refine TL_y rfl rfl (Y_move rfl) ?_
    refine TL_grun rfl rfl ?_
    refine TL_y rfl rfl (Y_move rfl) ?_
    refine TL_grun rfl rfl ?_
    refine TL_y rfl rfl (Y_unequal rfl rfl (EqIs.bool)) ?_
    refine TL_name 106 (v' := .bool false) rfl (congrArg Value.bool (by simp)) ?_
    refine TL_y rfl rfl (Y_pick_f rfl rfl) ?_
    refine TL_nil ?_
    refine T_cond_false rfl ?_
    refine T_skip ?_
    refine thenS_normal ?_
    refine T_seq ?_
    refine T_region ?_
    refine TL_y rfl rfl (Y_move rfl) ?_
    refine TL_y rfl rfl (Y_move rfl) ?_
    refine TL_y rfl rfl (Y_len rfl) ?_
    refine TL_y rfl rfl (Y_lt rfl rfl) ?_
    refine TL_y rfl rfl (Y_move rfl) ?_
    refine TL_splitd 112 rfl (fun h112 => ?_) (fun h112 => ?_)
    · refine TL_grun rfl rfl ?_
      refine TL_y rfl rfl (Y_move rfl) ?_
      refine TL_grun rfl rfl ?_
      refine TL_y rfl rfl (Y_rem rfl rfl (by decide)) ?_
      refine TL_grun rfl rfl ?_
      refine TL_y rfl rfl (Y_eq rfl rfl) ?_
      refine TL_y rfl rfl (Y_pick_t rfl rfl) ?_
      refine TL_nil ?_
      refine T_if rfl (fun h116 => ?_) (fun h116 => ?_)
      · obtain ⟨d, hd⟩ : ∃ d, drops[i]? = some d := ⟨_, List.getElem?_eq_getElem (by omega)⟩
        refine T_region ?_
        refine TL_y rfl rfl (Y_move rfl) ?_
        refine TL_pullk ba ?_
        refine TL_call rfl rfl (acFork_spec) ?_
        rintro _ _ ⟨b2, rfl, rfl⟩
        refine TL_y rfl rfl (Y_assign rfl) ?_
        refine TL_nil ?_
        refine T_seq ?_
        refine T_region ?_
        refine TL_y rfl rfl (Y_move rfl) ?_
        refine TL_y rfl rfl (Y_equal rfl rfl (EqIs.ptr_nil)) ?_
        refine TL_name 120 (v' := .bool false) rfl (by simp) ?_
        refine TL_nil ?_
        refine T_cond_false rfl ?_
        refine T_skip ?_
        refine thenS_normal ?_
        refine T_region ?_
        refine TL_y rfl rfl (Y_move rfl) ?_
        refine TL_pullk ba ?_
        refine TL_call rfl rfl (acDrop_spec 2147483648) ?_
        rintro _ _ ⟨rfl, rfl⟩
        refine TL_nil ?_
        refine T_region ?_
        refine TL_y rfl rfl (Y_move rfl) ?_
        refine TL_y rfl rfl (Y_assign rfl) ?_
        refine TL_nil ?_
        refine T_region ?_
        refine TL_y rfl rfl (Y_move rfl) ?_
        refine TL_y rfl rfl (Y_move rfl) ?_
        refine TL_y rfl rfl (Y_move rfl) ?_
        refine TL_index_int rfl rfl rfl slk hd ?_
        intro hi127 bi127 oi127
        refine TL_y rfl rfl (Y_load_row rfl rfl) ?_
        refine TL_pullk b2 ?_
        refine TL_call rfl rfl (acDrop_spec d) ?_
        rintro _ _ ⟨rfl, rfl⟩
        refine TL_nil ?_
        refine T_region_last ?_
        refine TL_y rfl rfl (Y_move rfl) ?_
        refine TL_y rfl rfl (Y_move rfl) ?_
        refine TL_y rfl rfl (Y_move rfl) ?_
        refine TL_y rfl rfl (Y_move rfl) ?_
        refine TL_index_int rfl rfl rfl slk hd ?_
        intro hi134 bi134 oi134
        refine TL_y rfl rfl (Y_load_row rfl rfl) ?_
        refine TL_pullk bx ?_
        refine TL_call rfl rfl (refAbove16_spec (hi2 ok60).len d) ?_
        rintro _ _ ⟨A136, c136, rfl, rfl⟩
        refine TL_y rfl rfl (Y_nil_check rfl) ?_
        refine TL_pullk bx ?_
        refine TL_ra fun A3 c3 hlc3 => ?_
        refine TL_y rfl rfl (Y_field_addr rfl) ?_
        refine TL_store rfl rfl rfl rfl rfl rfl ?_
        refine TL_nil ?_
        refine thenS_normal ?_
        refine T_gives (ra_close (A := A136) (c := c136) bx ⟨(stA s m).node, (stA s m).prom, aboveV (stA s m).V d⟩) ?_
        refine T_region ?_
        refine TL_y rfl rfl (Y_move rfl) ?_
        refine TL_y rfl rfl (Y_move rfl) ?_
        refine TL_pullk bx ?_
        refine TL_pullk ba ?_
        refine TL_pullk bx ?_
        refine TL_pullk b2 ?_
        refine TL_call rfl rfl (same16_spec (s := ⟨(stA s m).node, (stA s m).prom, aboveV (stA s m).V d⟩)) ?_
        rintro _ _ ⟨rfl, rfl⟩
        refine TL_name 141 (v' := .bool true) rfl (rfl) ?_
        refine TL_y rfl rfl (Y_not_t rfl) ?_
        refine TL_nil ?_
        refine T_cond_false rfl ?_
        refine T_skip ?_
        refine inB_normal ?_
        refine thenS_normal ?_
        refine T_region_last ?_
        refine TL_y rfl rfl (Y_move rfl) ?_
        refine TL_y rfl rfl (Y_add rfl rfl (by omega)) ?_
        refine TL_name 54 (v' := .int .i64 ((i + 1 : Nat) : Int)) rfl (rfl) ?_
        refine TL_y rfl rfl (Y_assign rfl) ?_
        refine TL_nil ?_
        refine thenS_normal ?_
        exact ⟨⟨i + 1, ⟨(stA s m).node, (stA s m).prom, aboveV (stA s m).V d⟩, b2⟩, (by simp only; omega), by simp only; omega, holds_to (sub_cons rfl (sub_cons rfl (sub_cons rfl (sub_cons rfl (sub_cons rfl (sub_nil)))))) GivesTo.g⟩
      · refine T_skip ?_
        refine thenS_normal ?_
        refine T_region ?_
        refine TL_y rfl rfl (Y_move rfl) ?_
        refine TL_y rfl rfl (Y_move rfl) ?_
        refine TL_pullk bx ?_
        refine TL_pullk ba ?_
        refine TL_call rfl rfl (same16_spec) ?_
        rintro _ _ ⟨rfl, rfl⟩
        refine TL_name 141 (v' := .bool true) rfl (rfl) ?_
        refine TL_y rfl rfl (Y_not_t rfl) ?_
        refine TL_nil ?_
        refine T_cond_false rfl ?_
        refine T_skip ?_
        refine inB_normal ?_
        refine thenS_normal ?_
        refine T_region_last ?_
        refine TL_y rfl rfl (Y_move rfl) ?_
        refine TL_y rfl rfl (Y_add rfl rfl (by omega)) ?_
        refine TL_name 54 (v' := .int .i64 ((i + 1 : Nat) : Int)) rfl (rfl) ?_
        refine TL_y rfl rfl (Y_assign rfl) ?_
        refine TL_nil ?_
        refine thenS_normal ?_
        exact ⟨⟨i + 1, stA s m, ba⟩, (by simp only; omega), by simp only; omega, holds_to (sub_cons rfl (sub_cons rfl (sub_cons rfl (sub_cons rfl (sub_cons rfl (sub_nil)))))) GivesTo.g⟩
    · refine TL_gskip rfl rfl rfl rfl ?_
      refine TL_gskip rfl rfl rfl rfl ?_
      refine TL_gskip rfl rfl rfl rfl ?_
      refine TL_y rfl rfl (Y_pick_f rfl rfl) ?_
      refine TL_nil ?_
      refine T_cond_false rfl ?_
      refine T_skip ?_
      refine thenS_normal ?_
      refine T_region ?_
      refine TL_y rfl rfl (Y_move rfl) ?_
      refine TL_y rfl rfl (Y_move rfl) ?_
      refine TL_pullk bx ?_
      refine TL_pullk ba ?_
      refine TL_call rfl rfl (same16_spec) ?_
      rintro _ _ ⟨rfl, rfl⟩
      refine TL_name 141 (v' := .bool true) rfl (rfl) ?_
      refine TL_y rfl rfl (Y_not_t rfl) ?_
      refine TL_nil ?_
      refine T_cond_false rfl ?_
      refine T_skip ?_
      refine inB_normal ?_
      refine thenS_normal ?_
      refine T_region_last ?_
      refine TL_y rfl rfl (Y_move rfl) ?_
      refine TL_y rfl rfl (Y_add rfl rfl (by omega)) ?_
      refine TL_name 54 (v' := .int .i64 ((i + 1 : Nat) : Int)) rfl (rfl) ?_
      refine TL_y rfl rfl (Y_assign rfl) ?_
      refine TL_nil ?_
      refine thenS_normal ?_
      exact ⟨⟨i + 1, stA s m, ba⟩, (by simp only; omega), by simp only; omega, holds_to (sub_cons rfl (sub_cons rfl (sub_cons rfl (sub_cons rfl (sub_cons rfl (sub_nil)))))) GivesTo.g⟩
  · refine TL_gskip rfl rfl rfl rfl ?_
    refine TL_gskip rfl rfl rfl rfl ?_
    refine TL_y rfl rfl (Y_pick_f rfl rfl) ?_
    refine TL_nil ?_
    refine T_cond_false rfl ?_
    refine T_exit ?_
    refine thenS_exit ?_
    refine thenS_exit ?_
    refine inB_hit ?_
    refine thenS_normal ?_
    refine T_region ?_
    refine TL_y rfl rfl (Y_assign rfl) ?_
    refine TL_nil ?_
    refine T_ret ?_
    exact RetG_1 (.inl rfl) rfl (ResV.tmp rfl) GivesTo.g (⟨rfl, rfl⟩)
theorem acceptorDoes_walk {L : List HP} {A A2 : Option Addr} {c c2 : Nat} {l : List MsgD} {drops : List Int} (node : Int) (hk : SlK L msgR A c l) (hk2 : SlK L (intR .i64) A2 c2 drops) (hb : ∀ m ∈ l, cMsg m ≤ 140737488355328) (hl : l.length ≤ 281474976710656) : Fn Try.prog 6 #[.int .i64 node, .slice A l.length c, .slice A2 drops.length c2] L (fun v L' => v = .bool true ∧ L' = L) := by
  by_cases hnode : 0 ≤ node ∧ node ≤ 6
  · exact acceptorDoes_ok node hnode hk hk2 hb hl
  · exact acceptorDoes_bad node hnode
end Go.SL
set_option linter.unusedVariables false
namespace Go.SL
open Go Go.Proofs
theorem msum_mem {α : Type} {μ : α → Nat} : ∀ {l : List α} {x : α}, x ∈ l → μ x ≤ (l.map μ).sum
  | y :: l, x, h => by
    rw [List.map_cons, List.sum_cons]
    rcases List.mem_cons.1 h with rfl | h
    · omega
    · have := msum_mem (μ := μ) h; omega
theorem msgs_small {l : List MsgD} (h : (l.map μMsg).sum ≤ 1048576) : ∀ m ∈ l, cMsg m ≤ 140737488355328 := fun m hm => cMsg_small (Nat.le_trans (msum_mem hm) h) (Nat.le_refl _)
theorem msgs_len {l : List MsgD} (h : (l.map μMsg).sum ≤ 1048576) : l.length ≤ 1048576 := by
  have := sum_ge (μ := μMsg) (fun x => by unfold μMsg; omega) l
  omega
end Go.SL
set_option linter.unusedVariables false
namespace Go.Proofs.Ytibejpgjgkeheaa
open Go.SL
theorem up_one {H : Type} (d : DataW H) : 1 ≤ Rows.uptoBulk d := by
  cases d with
  | lit l => cases l <;> simp [Rows.uptoBulk]
  | nil => simp [Rows.uptoBulk]
  | ptr d => simp [Rows.uptoBulk]
  | slice elems spare => simp [Rows.uptoBulk]
  | agg parts => simp [Rows.uptoBulk]
  | iface t d => simp [Rows.uptoBulk]
  | map entries => simp [Rows.uptoBulk]
  | held h => simp [Rows.uptoBulk]
theorem up_all {H : Type} : ∀ l : List (DataW H), Rows.uptoBulkAll l = (l.map Rows.uptoBulk).sum
  | [] => by simp [Rows.uptoBulkAll]
  | d :: l => by simp [Rows.uptoBulkAll, up_all l]
def upB {H : Type} : Bulk H := ⟨Rows.uptoBulk, up_one, fun b => by simp [Rows.uptoBulk], fun e s => by simp only [Rows.uptoBulk, up_all]; omega, fun ps => by simp only [Rows.uptoBulk, up_all]; omega, fun d => by simp only [Rows.uptoBulk]; omega⟩
theorem up_bound {H : Type} {l : List (DataW H)} (hk : Rows.uptoSmall H l = true) : (l.map upB.f).sum ≤ 1048576 := by
  have := of_decide_eq_true hk
  rwa [up_all] at this
end Go.Proofs.Ytibejpgjgkeheaa
