/- Learner: the walks of Choose and of From. -/
import Derived.Test.YtfmkfpgplpfkhaaLrC
set_option linter.unusedVariables false
set_option linter.unusedSimpArgs false
namespace Go.SL
open Go Go.Proofs
theorem five {l : List Value} (h : l.length = 5) : ∃ a b c d e, l = [a, b, c, d, e] := by
  match l, h with
  | [a, b, c, d, e], _ => exact ⟨a, b, c, d, e, rfl⟩
theorem lrChoose_spec {L : List HP} {b : Nat} {l : List SlotD} {A : Option Addr} {c : Nat} (slot : Int) (e : EntryD) (hs : intIn .i64 slot) (ho : orderOk' e.order) (hb : cSeal e.order ≤ 140737488355000) (hk : SlN L (intR .i64) A c e.order.cut) : Fn Try.prog 24 #[.pointer (some ⟨b, 0, none⟩), .int .i64 slot, entV e (A, c)] (lr b l :: L) (fun v L' => v = .int .i64 (chooseS l slot e).2 ∧ L' = lr b (chooseS l slot e).1 :: L) := by
  refine Fn_enter Try.func24 rfl rfl rfl rfl ?_
  refine T_region ?_
  refine TL_box rfl rfl rfl ?_
  intro b5
  refine TL_y rfl rfl (Y_assign rfl) ?_
  refine TL_nil ?_
  refine T_seq ?_
  refine T_region ?_
  refine TL_y rfl rfl (Y_move rfl) ?_
  refine TL_pullk b ?_
  refine TL_call rfl rfl (lrMade_spec) ?_
  rintro _ _ ⟨rfl, rfl⟩
  refine TL_name 14 (v' := .bool true) rfl (rfl) ?_
  refine TL_y rfl rfl (Y_not_t rfl) ?_
  refine TL_nil ?_
  refine T_cond_false rfl ?_
  refine T_skip ?_
  refine thenS_normal ?_
  refine T_seq ?_
  refine T_region ?_
  refine TL_y rfl rfl (Y_load_agg rfl rfl) ?_
  refine TL_y rfl rfl (Y_build rfl rfl) ?_
  refine TL_call rfl rfl (Fn_ro1 (fun L hk ↦ msgEntry_spec e ho hk hb) hk.tail.tail) ?_
  rintro _ _ ⟨⟨B19, d19, k19, rfl⟩, rfl⟩
  refine TL_y rfl rfl (Y_move rfl) ?_
  refine TL_y rfl rfl (Y_extract rfl rfl) ?_
  refine TL_y rfl rfl (Y_extract rfl rfl) ?_
  refine TL_y rfl rfl (Y_assign rfl) ?_
  refine TL_y rfl rfl (Y_assign rfl) ?_
  refine TL_nil ?_
  refine T_region ?_
  refine TL_y rfl rfl (Y_move rfl) ?_
  refine TL_y rfl rfl (Y_ne rfl rfl) ?_
  refine TL_name 23 (v' := .bool (decide (¬ rEntry e))) rfl (by by_cases hr : rEntry e <;> simp [hr]) ?_
  refine TL_both 8 31 (¬ (rEntry e ∧ 0 ≤ slot ∧ slot ≤ 2147483647)) ?_ ?_
  · refine TL_y rfl rfl (Y_move rfl) ?_
    refine TL_splitd 24 rfl (fun h24 => ?_) (fun h24 => ?_)
    · refine TL_gskip rfl rfl rfl rfl ?_
      refine TL_gskip rfl rfl rfl rfl ?_
      refine TL_y rfl rfl (Y_pick_t rfl rfl) ?_
      refine TL_y rfl rfl (Y_move rfl) ?_
      refine TL_gskip rfl rfl rfl rfl ?_
      refine TL_gskip rfl rfl rfl rfl ?_
      refine TL_y rfl rfl (Y_pick_t rfl rfl) ?_
      refine TL_chain_end rfl ?_ (by repeat (first | exact sub_refl | refine sub_ext rfl ?_)) GivesTo.g
      exact congrArg Value.bool (decide_eq_true (by by_cases hr : rEntry e <;> simp_all <;> omega)).symm
    · refine TL_grun rfl rfl ?_
      refine TL_y rfl rfl (Y_move rfl) ?_
      refine TL_grun rfl rfl ?_
      refine TL_y rfl rfl (Y_lt rfl rfl) ?_
      refine TL_y rfl rfl (Y_pick_f rfl rfl) ?_
      refine TL_y rfl rfl (Y_move rfl) ?_
      refine TL_splitd 28 rfl (fun h28 => ?_) (fun h28 => ?_)
      · refine TL_gskip rfl rfl rfl rfl ?_
        refine TL_gskip rfl rfl rfl rfl ?_
        refine TL_y rfl rfl (Y_pick_t rfl rfl) ?_
        refine TL_chain_end rfl ?_ (by repeat (first | exact sub_refl | refine sub_ext rfl ?_)) GivesTo.g
        exact congrArg Value.bool (decide_eq_true (by by_cases hr : rEntry e <;> simp_all <;> omega)).symm
      · refine TL_grun rfl rfl ?_
        refine TL_y rfl rfl (Y_move rfl) ?_
        refine TL_grun rfl rfl ?_
        refine TL_y rfl rfl (Y_gt rfl rfl) ?_
        refine TL_y rfl rfl (Y_pick_f rfl rfl) ?_
        refine TL_chain_end rfl ?_ (by repeat (first | exact sub_refl | refine sub_ext rfl ?_)) GivesTo.g
        exact congrArg Value.bool (decide_eq_decide.2 (by by_cases hr : rEntry e <;> simp_all <;> omega))
  refine TL_nil ?_
  refine T_if rfl (fun h31 => ?_) (fun h31 => ?_)
  · refine T_region ?_
    refine TL_y rfl rfl (Y_assign rfl) ?_
    refine TL_nil ?_
    refine T_ret ?_
    refine thenS_ret ?_
    have hs1 : chooseS l slot e = (l, 1) := by unfold chooseS; rw [if_pos h31]
    rw [hs1]
    exact RetG_1 (.inl rfl) rfl (ResV.tmp rfl) GivesTo.g (⟨rfl, rfl⟩)
  · refine T_skip ?_
    refine thenS_normal ?_
    have hr3 := Classical.not_not.1 h31
    refine T_pullk b ?_
    refine T_lr fun bt hi => ?_
    refine T_region ?_
    refine TL_y rfl rfl (Y_move rfl) ?_
    refine TL_y rfl rfl (Y_nil_check rfl) ?_
    refine TL_y rfl rfl (Y_field_addr rfl) ?_
    refine TL_y rfl rfl (Y_load rfl rfl) ?_
    refine TL_y rfl rfl (Y_move rfl) ?_
    refine TL_lookup_okx (k := slot) rfl rfl rfl hs (fun hn => ?_) (fun u p hu hou => ?_)
    · refine TL_y rfl rfl (Y_move rfl) ?_
      refine TL_y rfl rfl (Y_extract rfl rfl) ?_
      refine TL_y rfl rfl (Y_extract rfl rfl) ?_
      refine TL_name 40 (v' := .bool false) rfl (rfl) ?_
      refine TL_alloc rfl rfl ?_
      intro b9
      refine TL_store rfl rfl rfl rfl rfl rfl ?_
      refine TL_y rfl rfl (Y_assign rfl) ?_
      refine TL_nil ?_
      refine T_seq ?_
      refine T_block ?_
      refine T_region ?_
      refine TL_y rfl rfl (Y_move rfl) ?_
      refine TL_y rfl rfl (Y_move rfl) ?_
      refine TL_gskip rfl rfl rfl rfl ?_
      refine TL_gskip rfl rfl rfl rfl ?_
      refine TL_gskip rfl rfl rfl rfl ?_
      refine TL_gskip rfl rfl rfl rfl ?_
      refine TL_y rfl rfl (Y_pick_f rfl rfl) ?_
      refine TL_y rfl rfl (Y_assign rfl) ?_
      refine TL_nil ?_
      refine T_cond_false rfl ?_
      refine T_region ?_
      refine TL_y rfl rfl (Y_move rfl) ?_
      refine TL_y rfl rfl (Y_assign rfl) ?_
      refine TL_nil ?_
      refine T_cond_false rfl ?_
      refine T_region ?_
      refine TL_y rfl rfl (Y_move rfl) ?_
      refine TL_y rfl rfl (Y_nil_check rfl) ?_
      refine TL_y rfl rfl (Y_field_addr rfl) ?_
      refine TL_y rfl rfl (Y_load rfl rfl) ?_
      refine TL_y rfl rfl (Y_len_map rfl ) ?_
      refine TL_y rfl rfl (Y_ge rfl rfl) ?_
      refine TL_y rfl rfl (Y_assign rfl) ?_
      refine TL_nil ?_
      refine T_if rfl (fun h51 => ?_) (fun h51 => ?_)
      · refine T_region ?_
        refine TL_y rfl rfl (Y_assign rfl) ?_
        refine TL_nil ?_
        refine T_ret ?_
        refine inB_ret ?_
        refine thenS_ret ?_
        have hs1 : chooseS l slot e = (l, 2) := by unfold chooseS; rw [if_neg h31, hn]; simp only; rw [if_pos (by omega)]
        rw [hs1]
        refine RetQ.gives (lr_close b l hi) ?_
        exact RetG_1 (.inl rfl) rfl (ResV.tmp rfl) GivesTo.g (⟨rfl, rfl⟩)
      · refine T_skip ?_
        refine inB_normal ?_
        refine thenS_normal ?_
        have hs1 : chooseS l slot e = (putS l slot e, 0) := by unfold chooseS; rw [if_neg h31, hn]; simp only; rw [if_neg (by omega)]
        have hi2 : LI (putS l slot e) := hi.put hn hr3.2 ⟨hr3.1, ho⟩ (by omega)
        have hpm : pfx l ≤ pfx (putS l slot e) := Nat.le_of_not_lt fun hlt => hi2.gap (putS_has.2 (.inr (hi.below hlt)))
        have hps := hi2.spec.1
        have hpl := hi2.len
        refine T_region_draw _ [0, 1, 3, 7, 0, 0, 32, 127] [7] [(0, true), (1, true), (2, true), (3, true), (4, true), (5, true), (6, false), (7, false)] (by kernel_rfl) (by decide +kernel) (Gives.refl _) ?_
        refine TF_y rfl rfl (Y_move rfl) ?_
        refine TF_y rfl rfl (Y_nil_check rfl) ?_
        refine TF_y rfl rfl (Y_field_addr rfl) ?_
        refine TF_y rfl rfl (Y_load rfl rfl) ?_
        refine TF_y rfl rfl (Y_move rfl) ?_
        refine TF_y rfl rfl (Y_load_agg rfl rfl) ?_
        refine TF_anchor rfl ?_
        refine TL_call rfl rfl (lrCopied_spec e hk.tail.tail.tail.tail ho) ?_
        rintro _ _ ⟨q, rfl, rfl⟩
        refine TL_freeze_osl ?_
        refine TF_end GivesTo.g ?_
        refine TF_anchor rfl ?_
        refine TL_update (R := entryR) (k := slot) (u := e) (cs := entryC e q) (putS l slot e) rfl rfl rfl hs (ex_rep q (sep_sl slk) ho) (putS_perm hn) ?_
        refine TF_end_tail rfl ?_
        refine TF_nil ?_
        refine T_block ?_
        refine T_loopK (σ := Nat) [0] (fun n => n ≤ pfx (putS l slot e)) (fun n kv => kv) (fun n => cells b [.map (some bt), .int .i64 (n : Int)] 92 :: omap intK entryR true bt (putS l slot e) :: L) (fun n => pfx (putS l slot e) - n) (pfx l) rfl (hpm) (GivesTo.g) (sub_cons rfl (sub_nil)) ?_
        intro n hn
        refine T_block ?_
        refine T_seq ?_
        refine T_rd [0, 1, 3, 7, 0, 16, 48, 112, 255, 511, 1023, 1023, 0, 6143, 16383] (by kernel_rfl) (by decide +kernel) ?_
        refine RD_pair 8 12 (by decide) ?_ ?_
        · refine RD_leaf _ [0, 1, 3, 7, 0, 16, 48, 112, 255, 511, 1023, 1023, 511, 6143, 16383] [] [(0, true), (1, true), (2, true), (3, true), (4, true), (5, true), (6, true), (7, true), (8, false), (9, true), (10, true), (11, true), (12, false), (13, false), (14, true)] (by decide +kernel) (Gives.refl _) ?_
          refine TF_y rfl rfl (Y_move rfl) ?_
          refine TF_y rfl rfl (Y_nil_check rfl) ?_
          refine TF_y rfl rfl (Y_field_addr rfl) ?_
          refine TF_y rfl rfl (Y_load rfl rfl) ?_
          refine TF_y rfl rfl (Y_move rfl) ?_
          refine TF_y rfl rfl (Y_nil_check rfl) ?_
          refine TF_y rfl rfl (Y_field_addr rfl) ?_
          refine TF_y rfl rfl (Y_load rfl rfl) ?_
          refine TF_anchor rfl ?_
          refine TL_hasx (k := (n : Int)) rfl rfl rfl (i64In_mk (by omega)) rfl rfl ?_
          intro cs hcs hco
          obtain ⟨c0, c1, c2, c3, c4, rfl⟩ := five hcs
          refine TF_end GivesTo.g ?_
          refine TF_y rfl rfl (Y_move rfl) ?_
          refine TF_y rfl rfl (Y_extract rfl rfl) ?_
          refine TF_y rfl rfl (Y_extract rfl rfl) ?_
          refine TF_anchor rfl ?_
          refine TL_alloc rfl rfl ?_
          intro b11
          refine TF_end GivesTo.g ?_
          refine TF_anchor rfl ?_
          refine TL_store rfl rfl rfl rfl hco rfl ?_
          refine TF_end GivesTo.g ?_
          refine TF_y rfl rfl (Y_assign rfl) ?_
          refine TF_nil ?_
          refine thenS_normal ?_
          refine T_region ?_
          refine TL_y rfl rfl (Y_move rfl) ?_
          refine TL_y rfl rfl (Y_not rfl) ?_
          refine TL_nil ?_
          refine T_cond rfl (fun h78 => ?_) (fun h78 => ?_)
          · have hg : ¬ hasK (putS l slot e) (n : Int) := by unfold hasK; simpa using h78
            have hn3 : pfx (putS l slot e) = n := by rcases Nat.lt_or_eq_of_le hn with h | h; exact absurd (hi2.below h) hg; exact h.symm
            refine T_region ?_
            refine TL_y rfl rfl (Y_assign rfl) ?_
            refine TL_nil ?_
            refine T_ret ?_
            refine thenS_ret ?_
            refine inB_ret ?_
            refine thenS_ret ?_
            refine inB_ret ?_
            subst hn3
            rw [hs1]
            refine RetQ.gives (lr_close b (putS l slot e) hi2) ?_
            exact RetG_1 (.inl rfl) rfl (ResV.tmp rfl) GivesTo.g (⟨rfl, rfl⟩)
          · have hg : hasK (putS l slot e) (n : Int) := by unfold hasK; simpa using h78
            have hn4 : n < pfx (putS l slot e) := by rcases Nat.lt_or_eq_of_le hn with h | h; exact h; (subst h; exact absurd hg hi2.gap)
            refine T_skip ?_
            refine thenS_normal ?_
            refine T_region_last ?_
            refine TL_y rfl rfl (Y_move rfl) ?_
            refine TL_y rfl rfl (Y_nil_check rfl) ?_
            refine TL_y rfl rfl (Y_field_addr rfl) ?_
            refine TL_y rfl rfl (Y_load rfl rfl) ?_
            refine TL_y rfl rfl (Y_add rfl rfl (by omega)) ?_
            refine TL_name 83 (v' := .int .i64 ((n + 1 : Nat) : Int)) rfl (rfl) ?_
            refine TL_y rfl rfl (Y_nil_check rfl) ?_
            refine TL_y rfl rfl (Y_field_addr rfl) ?_
            refine TL_store rfl rfl rfl rfl rfl rfl ?_
            refine TL_nil ?_
            refine inB_normal ?_
            refine thenS_normal ?_
            exact ⟨n + 1, (by omega), by omega, holds_to (sub_cons rfl (sub_nil)) GivesTo.g⟩
        · refine RD_leaf _ [0, 1, 3, 7, 0, 16, 48, 112, 4351, 4607, 5119, 5119, 0, 6143, 16383] [] [(0, true), (1, true), (2, true), (3, true), (4, true), (5, true), (6, true), (7, true), (12, false), (8, false), (9, true), (10, true), (11, true), (13, false), (14, true)] (by decide +kernel) (Gives.refl _) ?_
          refine TF_y rfl rfl (Y_move rfl) ?_
          refine TF_y rfl rfl (Y_nil_check rfl) ?_
          refine TF_y rfl rfl (Y_field_addr rfl) ?_
          refine TF_y rfl rfl (Y_load rfl rfl) ?_
          refine TF_y rfl rfl (Y_move rfl) ?_
          refine TF_y rfl rfl (Y_nil_check rfl) ?_
          refine TF_y rfl rfl (Y_field_addr rfl) ?_
          refine TF_y rfl rfl (Y_load rfl rfl) ?_
          refine TF_anchor rfl ?_
          refine TL_alloc rfl rfl ?_
          intro b11
          refine TF_end GivesTo.g ?_
          refine TF_anchor rfl ?_
          refine TL_hasx (k := (n : Int)) rfl rfl rfl (i64In_mk (by omega)) rfl rfl ?_
          intro cs hcs hco
          obtain ⟨c0, c1, c2, c3, c4, rfl⟩ := five hcs
          refine TF_end GivesTo.g ?_
          refine TF_y rfl rfl (Y_move rfl) ?_
          refine TF_y rfl rfl (Y_extract rfl rfl) ?_
          refine TF_y rfl rfl (Y_extract rfl rfl) ?_
          refine TF_anchor rfl ?_
          refine TL_store rfl rfl rfl rfl hco rfl ?_
          refine TF_end GivesTo.g ?_
          refine TF_y rfl rfl (Y_assign rfl) ?_
          refine TF_nil ?_
          refine thenS_normal ?_
          refine T_region ?_
          refine TL_y rfl rfl (Y_move rfl) ?_
          refine TL_y rfl rfl (Y_not rfl) ?_
          refine TL_nil ?_
          refine T_cond rfl (fun h78 => ?_) (fun h78 => ?_)
          · have hg : ¬ hasK (putS l slot e) (n : Int) := by unfold hasK; simpa using h78
            have hn3 : pfx (putS l slot e) = n := by rcases Nat.lt_or_eq_of_le hn with h | h; exact absurd (hi2.below h) hg; exact h.symm
            refine T_region ?_
            refine TL_y rfl rfl (Y_assign rfl) ?_
            refine TL_nil ?_
            refine T_ret ?_
            refine thenS_ret ?_
            refine inB_ret ?_
            refine thenS_ret ?_
            refine inB_ret ?_
            subst hn3
            rw [hs1]
            refine RetQ.gives (lr_close b (putS l slot e) hi2) ?_
            exact RetG_1 (.inl rfl) rfl (ResV.tmp rfl) GivesTo.g (⟨rfl, rfl⟩)
          · have hg : hasK (putS l slot e) (n : Int) := by unfold hasK; simpa using h78
            have hn4 : n < pfx (putS l slot e) := by rcases Nat.lt_or_eq_of_le hn with h | h; exact h; (subst h; exact absurd hg hi2.gap)
            refine T_skip ?_
            refine thenS_normal ?_
            refine T_region_last ?_
            refine TL_y rfl rfl (Y_move rfl) ?_
            refine TL_y rfl rfl (Y_nil_check rfl) ?_
            refine TL_y rfl rfl (Y_field_addr rfl) ?_
            refine TL_y rfl rfl (Y_load rfl rfl) ?_
            refine TL_y rfl rfl (Y_add rfl rfl (by omega)) ?_
            refine TL_name 83 (v' := .int .i64 ((n + 1 : Nat) : Int)) rfl (rfl) ?_
            refine TL_y rfl rfl (Y_nil_check rfl) ?_
            refine TL_y rfl rfl (Y_field_addr rfl) ?_
            refine TL_store rfl rfl rfl rfl rfl rfl ?_
            refine TL_nil ?_
            refine inB_normal ?_
            refine thenS_normal ?_
            exact ⟨n + 1, (by omega), by omega, holds_to (sub_cons rfl (sub_nil)) GivesTo.g⟩
    · refine TL_y rfl rfl (Y_move rfl) ?_
      simp only [List.cons_append, List.nil_append]
      refine TL_y rfl rfl (Y_extract rfl rfl) ?_
      refine TL_y rfl rfl (Y_extract rfl rfl) ?_
      refine TL_name 40 (v' := .bool true) rfl (rfl) ?_
      refine TL_alloc rfl rfl ?_
      intro b9
      refine TL_store rfl rfl rfl rfl rfl rfl ?_
      refine TL_y rfl rfl (Y_assign rfl) ?_
      refine TL_nil ?_
      refine T_seq ?_
      refine T_block ?_
      refine T_region ?_
      refine TL_y rfl rfl (Y_move rfl) ?_
      refine TL_y rfl rfl (Y_move rfl) ?_
      refine TL_grun rfl rfl ?_
      refine TL_y rfl rfl (Y_load_agg rfl rfl) ?_
      refine TL_grun rfl rfl ?_
      refine TL_y rfl rfl (Y_load_agg rfl rfl) ?_
      refine TL_grun rfl rfl ?_
      refine TL_call rfl rfl (lrSame_spec u e sln hk.tail.tail.tail.tail.tail) ?_
      rintro _ _ ⟨rfl, rfl⟩
      refine TL_grun rfl rfl ?_
      refine TL_y rfl rfl (Y_not_d rfl) ?_
      refine TL_y rfl rfl (Y_pick_t rfl rfl) ?_
      refine TL_y rfl rfl (Y_assign rfl) ?_
      refine TL_nil ?_
      refine T_if rfl (fun h41 => ?_) (fun h41 => ?_)
      · refine T_region ?_
        refine TL_y rfl rfl (Y_assign rfl) ?_
        refine TL_nil ?_
        refine T_ret ?_
        refine inB_ret ?_
        refine thenS_ret ?_
        have hs1 : chooseS l slot e = (l, 180) := by unfold chooseS; rw [if_neg h31, hu]; simp only; rw [if_neg h41]
        rw [hs1]
        refine RetQ.gives (lr_close b l hi) ?_
        exact RetG_1 (.inl rfl) rfl (ResV.tmp rfl) GivesTo.g (⟨rfl, rfl⟩)
      · refine T_region ?_
        refine TL_y rfl rfl (Y_move rfl) ?_
        refine TL_y rfl rfl (Y_assign rfl) ?_
        refine TL_nil ?_
        refine T_cond_true rfl ?_
        refine T_region ?_
        refine TL_y rfl rfl (Y_assign rfl) ?_
        refine TL_nil ?_
        refine T_ret ?_
        refine inB_ret ?_
        refine thenS_ret ?_
        have hs1 : chooseS l slot e = (l, 5) := by unfold chooseS; rw [if_neg h31, hu]; simp only; rw [if_pos (Classical.not_not.1 h41)]
        rw [hs1]
        refine RetQ.gives (lr_close b l hi) ?_
        exact RetG_1 (.inl rfl) rfl (ResV.tmp rfl) GivesTo.g (⟨rfl, rfl⟩)
theorem nd_inc {l : List SlotD} (h : IncK l) : ND l := h.imp fun h => by omega
theorem LI.get_at {l : List SlotD} (h : LI l) {i : Nat} (hi : i < pfx l) : ∃ e, l[i]? = some ((i : Int), e) ∧ getM l (i : Int) = some e ∧ orderOk' e.order := by
  obtain ⟨e, he⟩ := h.spec.2.1 i hi
  have hm := List.mem_of_getElem? he
  exact ⟨e, he, getM_of_mem (nd_inc h.inc) hm, (h.ents _ hm).2⟩
abbrev FromD := Int × EntryD × (Option Addr × Nat)
abbrev fromVal (x : FromD) : List Value := [.int .i64 x.1, entV x.2.1 x.2.2]
def fromOk (x : FromD) (L : List HP) : Prop := intIn .i64 x.1 ∧ orderOk' x.2.1.order ∧ SlK L (intR .i64) x.2.2.1 x.2.2.2 x.2.1.order.cut
def fromP (x : FromD) : SlotD := (x.1, x.2.1)
def fromL (l : List SlotD) (slot : Int) : List SlotD := (l.take (pfx l)).drop (max slot 0).toNat
def fromQ (l : List SlotD) (slot : Int) (st : Bool) (xs : List FromD) : Prop := (st = false → xs.map fromP = fromL l slot) ∧ xs.map fromP <+: fromL l slot
theorem lrFrom_spec {L : List HP} {b : Nat} (slot : Int) : Fn Try.prog 25 #[.pointer (some ⟨b, 0, none⟩), .int .i64 slot] L (fun v L' => ∃ bl bs, v = .func (.func 51) #[] #[.pointer (some ⟨bs, 0, none⟩), .pointer (some ⟨bl, 0, none⟩)] ∧ L' = cells bl [.pointer (some ⟨b, 0, none⟩)] 46 :: cells bs [.int .i64 slot] 3 :: L) := by
  refine Fn_enter Try.func25 rfl rfl rfl rfl ?_
  refine T_region ?_
  refine TL_box rfl rfl rfl ?_
  intro b2
  refine TL_box rfl rfl rfl ?_
  intro b3
  refine TL_y rfl rfl (Y_assign rfl) ?_
  refine TL_nil ?_
  refine T_region ?_
  refine TL_y rfl rfl (Y_make_func rfl rfl) ?_
  refine TL_y rfl rfl (Y_assign rfl) ?_
  refine TL_nil ?_
  refine T_ret ?_
  exact RetG_1 (.inl rfl) rfl (ResV.tmp rfl) GivesTo.g (⟨b2, b3, rfl, rfl⟩)
theorem from1_spec {b bl bs : Nat} {l : List SlotD} {slot : Int} (hsl : intIn .i64 slot)
    {τ : Type} {ly : Nat} {C : τ → HP} {step : τ → FromD → τ → Prop} {stop : τ → Bool} {cnt : τ → Nat} {s0 : τ} {Lx : List HP} (h0 : stop s0 = false) (hc0 : cnt s0 = 0) (hcnt : ∀ s x s', step s x s' → cnt s' = cnt s + 1) (hy : YieldsL Try.prog ly C fromVal fromOk step stop cnt 65536) :
    Fn Try.prog 51 #[.func (.yield ly) #[] #[], .pointer (some ⟨bs, 0, none⟩), .pointer (some ⟨bl, 0, none⟩)] (con ly (C s0) :: lr b l :: cells bl [.pointer (some ⟨b, 0, none⟩)] 46 :: cells bs [.int .i64 slot] 3 :: Lx)
      (fun v L' => ∃ xs s', fromQ l slot (stop s') xs ∧ Runs step stop s0 xs s' ∧ L' = con ly (C s') :: lr b l :: cells bl [.pointer (some ⟨b, 0, none⟩)] 46 :: cells bs [.int .i64 slot] 3 :: Lx) := by
  have hsl := i64In hsl
  obtain ⟨f, hf⟩ : ∃ f : Nat, f = (max slot 0).toNat := ⟨_, rfl⟩
  have hfl : fromL l slot = (l.take (pfx l)).drop f := by rw [hf]; rfl
  refine Fn_enter Try.func51 rfl rfl rfl rfl ?_
  refine T_pullk b ?_
  refine T_lrI fun hi => ?_
  have hlen := hi.len
  have hpl := hi.spec.1
  refine T_region ?_
  refine TL_y rfl rfl (Y_load rfl rfl) ?_
  refine TL_y rfl rfl (Y_max rfl rfl) ?_
  refine TL_name 8 (v' := .int .i64 (f : Int)) rfl (by congr 1; omega) ?_
  refine TL_y rfl rfl (Y_assign rfl) ?_
  refine TL_nil ?_
  refine T_block ?_
  refine T_loopK (σ := List FromD × τ) [0, 2] (fun g => g.1.map fromP = (fromL l slot).take g.1.length ∧ Runs step stop s0 g.1 g.2 ∧ stop g.2 = false ∧ cnt g.2 = g.1.length ∧ (g.1.length = 0 ∨ f + g.1.length ≤ pfx l)) (fun g kv => (4, .int .i64 ((f + g.1.length : Nat) : Int)) :: kv) (fun g => con ly (C g.2) :: lr b l :: cells bl [.pointer (some ⟨b, 0, none⟩)] 46 :: cells bs [.int .i64 slot] 3 :: Lx) (fun g => pfx l - (f + g.1.length)) (([], s0)) rfl (⟨rfl, .nil _, h0, hc0, .inl rfl⟩) (GivesTo.g) (sub_cons rfl (sub_cons rfl (sub_cons rfl (sub_nil)))) ?_
  rintro ⟨xs, st⟩ ⟨hx, hr, hs, hc, hxl⟩
  dsimp only at hx hr hs hc hxl ⊢
  refine T_seq ?_
  refine T_region ?_
  refine TL_y rfl rfl (Y_move rfl) ?_
  refine TL_y rfl rfl (Y_load rfl rfl) ?_
  refine TL_pullk b ?_
  refine TL_call rfl rfl (lrPrefix_spec) ?_
  rintro _ _ ⟨rfl, rfl⟩
  refine TL_y rfl rfl (Y_lt rfl rfl) ?_
  refine TL_nil ?_
  refine T_if rfl (fun h12 => ?_) (fun h12 => ?_)
  · refine T_skip ?_
    refine thenS_normal ?_
    refine T_seq ?_
    refine T_block ?_
    refine T_region ?_
    obtain ⟨e, he, hge, hoe⟩ := hi.get_at (i := f + xs.length) (by omega)
    have hgs : getS l ((f + xs.length : Nat) : Int) = e := by unfold getS; rw [hge]; rfl
    have hin : intIn .i64 ((f + xs.length : Nat) : Int) := i64In_mk (by omega)
    refine TL_y rfl rfl (Y_load rfl rfl) ?_
    refine TL_y rfl rfl (Y_move rfl) ?_
    refine TL_pullk b ?_
    refine TL_call rfl rfl (lrGet_spec ((f + xs.length : Nat) : Int) hin) ?_
    rintro _ _ ⟨q, rfl, _, rfl⟩
    rw [hgs]
    refine TL_freeze_osl ?_
    refine TL_y rfl rfl (Y_move rfl) ?_
    refine TL_y rfl rfl (Y_extract rfl rfl) ?_
    refine TL_y rfl rfl (Y_extract rfl rfl) ?_
    refine TL_alloc rfl rfl ?_
    intro b5
    refine TL_store rfl rfl rfl rfl rfl rfl ?_
    refine TL_y rfl rfl (Y_assign rfl) ?_
    refine TL_nil ?_
    refine T_region ?_
    refine TL_y rfl rfl (Y_move rfl) ?_
    refine TL_y rfl rfl (Y_move rfl) ?_
    refine TL_y rfl rfl (Y_load_agg rfl rfl) ?_
    refine TL_pullk ly ?_
    refine TL_yield rfl rfl rfl (hy st (((f + xs.length : Nat) : Int), e, q) _ hs ⟨hin, hoe, slk⟩ (by omega)) ?_
    rintro _ _ ⟨s2, hst, rfl, rfl⟩
    refine TL_y rfl rfl (Y_not rfl) ?_
    refine TL_nil ?_
    have hat : (fromL l slot)[xs.length]? = some (((f + xs.length : Nat) : Int), e) := by rw [hfl, List.getElem?_drop, List.getElem?_take_of_lt (by omega)]; exact he
    have hnx : (xs ++ [(((f + xs.length : Nat) : Int), e, q)]).map fromP = (fromL l slot).take (xs ++ [(((f + xs.length : Nat) : Int), e, q)]).length := by rw [List.map_append, hx, List.length_append, List.length_singleton, take_at hat]; rfl
    refine T_cond rfl (fun h25 => ?_) (fun h25 => ?_)
    · have hs2 : stop s2 = true := by simpa using h25
      refine T_ret ?_
      refine inB_ret ?_
      refine thenS_ret ?_
      refine thenS_ret ?_
      refine inB_ret ?_
      exact RetG_0 (.inl rfl) rfl GivesTo.g (⟨_, s2, ⟨fun h => (by rw [hs2] at h; cases h), by rw [hnx]; exact List.take_prefix _ _⟩, hr.snoc h0 hs hst, rfl⟩)
    · have hs2 : stop s2 = false := by simpa using h25
      refine T_skip ?_
      refine inB_normal ?_
      refine thenS_normal ?_
      refine T_region_last ?_
      refine TL_y rfl rfl (Y_move rfl) ?_
      refine TL_y rfl rfl (Y_add rfl rfl (by omega)) ?_
      refine TL_name 14 (v' := .int .i64 ((f + (xs ++ [((((f + xs.length : Nat) : Int), e, q) : FromD)]).length : Nat) : Int)) rfl (by simp; omega) ?_
      refine TL_y rfl rfl (Y_assign rfl) ?_
      refine TL_nil ?_
      refine thenS_normal ?_
      exact ⟨(xs ++ [(((f + xs.length : Nat) : Int), e, q)], s2), ⟨hnx, hr.snoc h0 hs hst, hs2, by dsimp only; rw [hcnt _ _ _ hst, hc]; simp, .inr (by simp; omega)⟩, by simp; omega, holds_to (sub_cons rfl (sub_cons rfl (sub_cons rfl (sub_nil)))) GivesTo.g⟩
  · refine T_exit ?_
    refine thenS_exit ?_
    refine thenS_exit ?_
    refine inB_hit ?_
    have hall : xs.map fromP = fromL l slot := by rw [hx, List.take_of_length_le (by rw [hfl, List.length_drop, List.length_take]; omega)]
    exact RetG_0 (.inr rfl) rfl GivesTo.g (⟨_, st, ⟨fun _ => hall, by rw [hall]; exact List.prefix_rfl⟩, hr, rfl⟩)
theorem from_iter {b bl bs : Nat} {l : List SlotD} {slot : Int} (hsl : intIn .i64 slot) : IterL Try.prog (.func (.func 51) #[] #[.pointer (some ⟨bs, 0, none⟩), .pointer (some ⟨bl, 0, none⟩)]) fromVal fromOk 65536 [lr b l, cells bl [.pointer (some ⟨b, 0, none⟩)] 46, cells bs [.int .i64 slot] 3] (fromQ l slot) :=
  ⟨_, [], [.pointer (some ⟨bs, 0, none⟩), .pointer (some ⟨bl, 0, none⟩)], rfl, inferInstance, fun τ ly C step stop cnt s0 Lx h0 hc hcnt hy => (from1_spec hsl h0 hc hcnt hy).cases_ fun v L' ⟨xs, s', a1, a2, a3⟩ => ⟨xs, s', a1, a2, a3⟩⟩
end Go.SL
