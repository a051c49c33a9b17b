/- Ballots: what the document picks; the walk of the law. -/
import Derived.Test.YtibejpgjgkeheaaBalJ
set_option linter.unusedVariables false
set_option linter.unusedSimpArgs false
namespace Go.SL
open Go Go.Proofs
structure RpSt where
  i : Nat
  r : Int
def RpI (l : List VotedD) (slot : Int) (g : RpSt) : Prop := (g.r = -1 ∧ pickV slot (l.take g.i) = none) ∨ ∃ (j : Nat) (u : VotedD), g.r = (j : Int) ∧ l[j]? = some u ∧ pickV slot (l.take g.i) = some u
theorem refPick_spec {L : List HP} {A : Option Addr} {c : Nat} {l : List VotedD} (hk : SlK L votedR A c l) (hl : l.length ≤ 281474976710656) (slot : Int) : Fn Try.prog 15 #[.slice A l.length c, .int .i64 slot] L (fun v L' => ∃ A' c', v = .tuple #[.agg (entryC (bestOr (pickV slot l)).en (A', c')).toArray, .bool (pickV slot l).isSome] ∧ L' = sl (intR .i64) A' c' (bestOr (pickV slot l)).en.order.cut :: L) := by
  refine Fn_enter Try.func15 rfl rfl rfl rfl ?_
  refine T_gives hk.lay ?_
  refine T_region ?_
  refine TL_alloc rfl rfl ?_
  intro b4
  refine TL_y rfl rfl (Y_assign rfl) ?_
  refine TL_nil ?_
  refine T_region ?_
  refine TL_y rfl rfl (Y_assign rfl) ?_
  refine TL_nil ?_
  refine T_seq ?_
  refine T_region ?_
  refine TL_y rfl rfl (Y_assign rfl) ?_
  refine TL_nil ?_
  refine T_block ?_
  refine T_loopK (σ := RpSt) [0, 1, 4] (fun g => g.i ≤ l.length ∧ RpI l slot g) (fun g kv => (7, .int .i64 (g.i : Int)) :: (6, .int .i64 g.r) :: kv) (fun g => cells b4 [.bool false, .string ⟨#[]⟩, .string ⟨#[]⟩, .int .i64 0, .slice none 0 0] 27 :: sl votedR A c l :: L) (fun g => l.length - g.i) (⟨0, -1⟩) rfl (⟨Nat.zero_le _, .inl ⟨rfl, rfl⟩⟩) (GivesTo.g) (sub_cons rfl (sub_cons rfl (sub_cons rfl (sub_cons rfl (sub_cons rfl (sub_nil)))))) ?_
  rintro ⟨i, r⟩ ⟨hil, hri⟩
  dsimp only at hil ⊢
  refine T_seq ?_
  refine T_region ?_
  refine TL_y rfl rfl (Y_move rfl) ?_
  refine TL_y rfl rfl (Y_move rfl) ?_
  refine TL_y rfl rfl (Y_len rfl) ?_
  refine TL_y rfl rfl (Y_lt rfl rfl) ?_
  refine TL_nil ?_
  refine T_if rfl (fun h11 => ?_) (fun h11 => ?_)
  · refine T_skip ?_
    refine thenS_normal ?_
    refine T_seq ?_
    refine T_block ?_
    rcases hri with ⟨rfl, hp⟩ | ⟨j, u, rfl, hu, hp⟩
    · obtain ⟨v, hv⟩ : ∃ v, l[i]? = some v := ⟨_, List.getElem?_eq_getElem (by omega)⟩
      have hnx := pickV_next (slot := slot) hv
      refine T_addr_n (sln (A := A) (c := c)) hv fun bl ol el => ?_
      subst el
      dsimp only at hp
      refine T_region_draw _ [0, 0, 3, 7, 15, 0, 63, 127, 255, 511, 1023, 2047, 2047, 8191, 16383, 32767, 2047, 2047, 198655, 460799, 985087, 2097151, 4194303, 8388607, 16777215] [] [(0, true), (1, true), (2, true), (3, true), (4, true), (5, true), (6, true), (7, true), (8, true), (9, true), (10, true), (11, true), (12, true), (13, true), (14, true), (15, true), (16, true), (17, true), (18, true), (19, true), (20, true), (21, false), (22, true), (23, true), (24, true)] (by kernel_rfl) (by decide +kernel) (Gives.refl _) ?_
      refine TF_y rfl rfl (Y_move rfl) ?_
      refine TF_y rfl rfl (Y_move rfl) ?_
      refine TF_y rfl rfl (Y_index_n (R := votedR) (xs := l) rfl rfl rfl hv) ?_
      refine TF_y rfl rfl (Y_field_addr2 rfl) ?_
      refine TF_y rfl rfl (Y_load_nx (xs := l) (u := v) (v := .int .i64 v.slot) rfl (sln (c := c)) hv (fun _ ↦ rfl)) ?_
      refine TF_y rfl rfl (Y_move rfl) ?_
      refine TF_y rfl rfl (Y_eq rfl rfl) ?_
      refine TF_y rfl rfl (Y_move rfl) ?_
      refine TF_splitd 21 rfl (fun h21 => ?_) (fun h21 => ?_)
      · refine TF_gy rfl rfl rfl rfl (Y_move rfl) ?_
        refine TF_gy rfl rfl rfl rfl (Y_lt rfl rfl) ?_
        refine TF_name 23 (v' := .bool true) rfl (congrArg Value.bool (decide_eq_true (by omega))) ?_
        refine TF_gy rfl rfl rfl rfl (Y_move rfl) ?_
        refine TF_gskip rfl rfl rfl rfl rfl ?_
        refine TF_gskip rfl rfl rfl rfl rfl ?_
        refine TF_gskip rfl rfl rfl rfl rfl ?_
        refine TF_gskip rfl rfl rfl rfl rfl ?_
        refine TF_gskip rfl rfl rfl rfl rfl ?_
        refine TF_gskip rfl rfl rfl rfl rfl ?_
        refine TF_gskip rfl rfl rfl rfl rfl ?_
        refine TF_gskip rfl rfl rfl rfl rfl ?_
        refine TF_gskip rfl rfl rfl rfl rfl ?_
        refine TF_gskip rfl rfl rfl rfl rfl ?_
        refine TF_anchor rfl ?_
        refine TL_gskip rfl rfl rfl rfl ?_
        refine TF_end GivesTo.g ?_
        refine TF_gskip rfl rfl rfl rfl rfl ?_
        refine TF_gy rfl rfl rfl rfl (Y_pick_t rfl rfl) ?_
        refine TF_y rfl rfl (Y_pick_t rfl rfl) ?_
        refine TF_nil ?_
        refine T_cond_true rfl ?_
        refine T_region_last ?_
        refine TL_y rfl rfl (Y_move rfl) ?_
        refine TL_y rfl rfl (Y_assign rfl) ?_
        refine TL_nil ?_
        refine inB_normal ?_
        refine thenS_normal ?_
        refine T_region_last ?_
        refine TL_y rfl rfl (Y_move rfl) ?_
        refine TL_y rfl rfl (Y_add rfl rfl (by omega)) ?_
        refine TL_name 13 (v' := .int .i64 ((i + 1 : Nat) : Int)) rfl (rfl) ?_
        refine TL_y rfl rfl (Y_assign rfl) ?_
        refine TL_nil ?_
        refine thenS_normal ?_
        exact ⟨⟨i + 1, (i : Int)⟩, ⟨by simp only; omega, .inr ⟨i, v, rfl, hv, by rw [hnx, better_first h21 (by rw [hp]; rfl)]⟩⟩, by simp only; omega, holds_to (sub_cons rfl (sub_cons rfl (sub_cons rfl (sub_cons rfl (sub_cons rfl (sub_nil)))))) GivesTo.g⟩
      · refine TF_gskip rfl rfl rfl rfl rfl ?_
        refine TF_gskip rfl rfl rfl rfl rfl ?_
        refine TF_gskip rfl rfl rfl rfl rfl ?_
        refine TF_gskip_u rfl rfl rfl rfl ?_
        refine TF_gskip_u rfl rfl rfl rfl ?_
        refine TF_gskip_u rfl rfl rfl rfl ?_
        refine TF_gskip_u rfl rfl rfl rfl ?_
        refine TF_gskip_u rfl rfl rfl rfl ?_
        refine TF_gskip_u rfl rfl rfl rfl ?_
        refine TF_gskip_u rfl rfl rfl rfl ?_
        refine TF_gskip_u rfl rfl rfl rfl ?_
        refine TF_gskip_u rfl rfl rfl rfl ?_
        refine TF_gskip_u rfl rfl rfl rfl ?_
        refine TF_anchor rfl ?_
        refine TL_gskip_u rfl rfl rfl ?_
        refine TF_end GivesTo.g ?_
        refine TF_gskip_u rfl rfl rfl rfl ?_
        refine TF_gskip rfl rfl rfl rfl rfl ?_
        refine TF_y rfl rfl (Y_pick_f rfl rfl) ?_
        refine TF_nil ?_
        refine T_cond_false rfl ?_
        refine T_skip ?_
        refine inB_normal ?_
        refine thenS_normal ?_
        refine T_region_last ?_
        refine TL_y rfl rfl (Y_move rfl) ?_
        refine TL_y rfl rfl (Y_add rfl rfl (by omega)) ?_
        refine TL_name 13 (v' := .int .i64 ((i + 1 : Nat) : Int)) rfl (rfl) ?_
        refine TL_y rfl rfl (Y_assign rfl) ?_
        refine TL_nil ?_
        refine thenS_normal ?_
        exact ⟨⟨i + 1, -1⟩, ⟨by simp only; omega, .inl ⟨rfl, by rw [hnx, better_no h21, hp]⟩⟩, by simp only; omega, holds_to (sub_cons rfl (sub_cons rfl (sub_cons rfl (sub_cons rfl (sub_cons rfl (sub_nil)))))) GivesTo.g⟩
    · obtain ⟨v, hv⟩ : ∃ v, l[i]? = some v := ⟨_, List.getElem?_eq_getElem (by omega)⟩
      have hnx := pickV_next (slot := slot) hv
      refine T_addr_n (sln (A := A) (c := c)) hv fun bl ol el => ?_
      subst el
      dsimp only at hp
      refine T_region_draw _ [0, 0, 3, 7, 15, 0, 63, 127, 255, 511, 1023, 2047, 2047, 8191, 16383, 32767, 2047, 2047, 198655, 460799, 985087, 2097151, 4194303, 8388607, 16777215] [] [(0, true), (1, true), (2, true), (3, true), (4, true), (5, true), (6, true), (7, true), (8, true), (9, true), (10, true), (11, true), (12, true), (13, true), (14, true), (15, true), (16, true), (17, true), (18, true), (19, true), (20, true), (21, false), (22, true), (23, true), (24, true)] (by kernel_rfl) (by decide +kernel) (Gives.refl _) ?_
      refine TF_y rfl rfl (Y_move rfl) ?_
      refine TF_y rfl rfl (Y_move rfl) ?_
      refine TF_y rfl rfl (Y_index_n (R := votedR) (xs := l) rfl rfl rfl hv) ?_
      refine TF_y rfl rfl (Y_field_addr2 rfl) ?_
      refine TF_y rfl rfl (Y_load_nx (xs := l) (u := v) (v := .int .i64 v.slot) rfl (sln (c := c)) hv (fun _ ↦ rfl)) ?_
      refine TF_y rfl rfl (Y_move rfl) ?_
      refine TF_y rfl rfl (Y_eq rfl rfl) ?_
      refine TF_y rfl rfl (Y_move rfl) ?_
      refine TF_splitd 21 rfl (fun h21 => ?_) (fun h21 => ?_)
      · refine TF_gy rfl rfl rfl rfl (Y_move rfl) ?_
        refine TF_gy rfl rfl rfl rfl (Y_lt rfl rfl) ?_
        refine TF_name 23 (v' := .bool false) rfl (congrArg Value.bool (decide_eq_false (by omega))) ?_
        refine TF_gy rfl rfl rfl rfl (Y_move rfl) ?_
        refine TF_gy rfl rfl rfl rfl (Y_move rfl) ?_
        refine TF_gy rfl rfl rfl rfl (Y_move rfl) ?_
        refine TF_gy rfl rfl rfl rfl (Y_index_n (R := votedR) (xs := l) rfl rfl rfl hv) ?_
        refine TF_gy rfl rfl rfl rfl (Y_field_addr2 rfl) ?_
        refine TF_gy rfl rfl rfl rfl (Y_load_nxa (xs := l) (u := v) (vs := [.int .i64 v.bal.1, .int .i64 v.bal.2]) rfl (sln (c := c)) hv (fun _ ↦ rfl)) ?_
        refine TF_gy rfl rfl rfl rfl (Y_move rfl) ?_
        refine TF_gy rfl rfl rfl rfl (Y_move rfl) ?_
        refine TF_gy rfl rfl rfl rfl (Y_index_n (R := votedR) (xs := l) rfl rfl rfl hu) ?_
        refine TF_gy rfl rfl rfl rfl (Y_field_addr2 rfl) ?_
        refine TF_gy rfl rfl rfl rfl (Y_load_nxa (xs := l) (u := u) (vs := [.int .i64 u.bal.1, .int .i64 u.bal.2]) rfl (sln (c := c)) hu (fun _ ↦ rfl)) ?_
        refine TF_anchor rfl ?_
        refine TL_grun rfl rfl ?_
        refine TL_call rfl rfl (refCompare_spec v.bal u.bal _) ?_
        rintro _ _ ⟨rfl, rfl⟩
        refine TF_end GivesTo.g ?_
        refine TF_gy rfl rfl rfl rfl (Y_gt rfl rfl) ?_
        refine TF_gy rfl rfl rfl rfl (Y_pick_f rfl rfl) ?_
        refine TF_y rfl rfl (Y_pick_t rfl rfl) ?_
        refine TF_nil ?_
        refine T_if rfl (fun h38 => ?_) (fun h38 => ?_)
        · refine T_region_last ?_
          refine TL_y rfl rfl (Y_move rfl) ?_
          refine TL_y rfl rfl (Y_assign rfl) ?_
          refine TL_nil ?_
          refine inB_normal ?_
          refine thenS_normal ?_
          refine T_region_last ?_
          refine TL_y rfl rfl (Y_move rfl) ?_
          refine TL_y rfl rfl (Y_add rfl rfl (by omega)) ?_
          refine TL_name 13 (v' := .int .i64 ((i + 1 : Nat) : Int)) rfl (rfl) ?_
          refine TL_y rfl rfl (Y_assign rfl) ?_
          refine TL_nil ?_
          refine thenS_normal ?_
          exact ⟨⟨i + 1, (i : Int)⟩, ⟨by simp only; omega, .inr ⟨i, v, rfl, hv, by rw [hnx, better_more h21 (by rw [hp]; rfl) (by rw [hp]; exact h38)]⟩⟩, by simp only; omega, holds_to (sub_cons rfl (sub_cons rfl (sub_cons rfl (sub_cons rfl (sub_cons rfl (sub_nil)))))) GivesTo.g⟩
        · refine T_skip ?_
          refine inB_normal ?_
          refine thenS_normal ?_
          refine T_region_last ?_
          refine TL_y rfl rfl (Y_move rfl) ?_
          refine TL_y rfl rfl (Y_add rfl rfl (by omega)) ?_
          refine TL_name 13 (v' := .int .i64 ((i + 1 : Nat) : Int)) rfl (rfl) ?_
          refine TL_y rfl rfl (Y_assign rfl) ?_
          refine TL_nil ?_
          refine thenS_normal ?_
          exact ⟨⟨i + 1, (j : Int)⟩, ⟨by simp only; omega, .inr ⟨j, u, rfl, hu, by rw [hnx, better_less h21 (by rw [hp]; rfl) (by rw [hp]; exact h38), hp]⟩⟩, by simp only; omega, holds_to (sub_cons rfl (sub_cons rfl (sub_cons rfl (sub_cons rfl (sub_cons rfl (sub_nil)))))) GivesTo.g⟩
      · refine TF_gskip rfl rfl rfl rfl rfl ?_
        refine TF_gskip rfl rfl rfl rfl rfl ?_
        refine TF_gskip rfl rfl rfl rfl rfl ?_
        refine TF_gskip_u rfl rfl rfl rfl ?_
        refine TF_gskip_u rfl rfl rfl rfl ?_
        refine TF_gskip_u rfl rfl rfl rfl ?_
        refine TF_gskip_u rfl rfl rfl rfl ?_
        refine TF_gskip_u rfl rfl rfl rfl ?_
        refine TF_gskip_u rfl rfl rfl rfl ?_
        refine TF_gskip_u rfl rfl rfl rfl ?_
        refine TF_gskip_u rfl rfl rfl rfl ?_
        refine TF_gskip_u rfl rfl rfl rfl ?_
        refine TF_gskip_u rfl rfl rfl rfl ?_
        refine TF_anchor rfl ?_
        refine TL_gskip_u rfl rfl rfl ?_
        refine TF_end GivesTo.g ?_
        refine TF_gskip_u rfl rfl rfl rfl ?_
        refine TF_gskip rfl rfl rfl rfl rfl ?_
        refine TF_y rfl rfl (Y_pick_f rfl rfl) ?_
        refine TF_nil ?_
        refine T_cond_false rfl ?_
        refine T_skip ?_
        refine inB_normal ?_
        refine thenS_normal ?_
        refine T_region_last ?_
        refine TL_y rfl rfl (Y_move rfl) ?_
        refine TL_y rfl rfl (Y_add rfl rfl (by omega)) ?_
        refine TL_name 13 (v' := .int .i64 ((i + 1 : Nat) : Int)) rfl (rfl) ?_
        refine TL_y rfl rfl (Y_assign rfl) ?_
        refine TL_nil ?_
        refine thenS_normal ?_
        exact ⟨⟨i + 1, (j : Int)⟩, ⟨by simp only; omega, .inr ⟨j, u, rfl, hu, by rw [hnx, better_no h21, hp]⟩⟩, by simp only; omega, holds_to (sub_cons rfl (sub_cons rfl (sub_cons rfl (sub_cons rfl (sub_cons rfl (sub_nil)))))) GivesTo.g⟩
  · refine T_exit ?_
    refine thenS_exit ?_
    refine thenS_exit ?_
    refine inB_hit ?_
    refine thenS_normal ?_
    refine T_seq ?_
    rcases hri with ⟨rfl, hp⟩ | ⟨j, u, rfl, hu, hp⟩
    · dsimp only at hp
      rw [List.take_of_length_le (show l.length ≤ i by omega)] at hp
      refine T_region ?_
      refine TL_y rfl rfl (Y_move rfl) ?_
      refine TL_y rfl rfl (Y_lt rfl rfl) ?_
      refine TL_name 41 (v' := .bool true) rfl (congrArg Value.bool (decide_eq_true (by omega))) ?_
      refine TL_nil ?_
      refine T_cond_true rfl ?_
      refine T_region ?_
      refine TL_y rfl rfl (Y_build rfl rfl) ?_
      refine TL_store rfl rfl rfl rfl rfl rfl ?_
      refine TL_y rfl rfl (Y_assign rfl) ?_
      refine TL_nil ?_
      refine T_ret ?_
      refine thenS_ret ?_
      rw [hp]
      simp only [bestOr, voted0]
      refine RetQ.gives (slnil (A := none) (c := 0) (R := intR .i64)).lay ?_
      exact RetG_2 (.inl rfl) rfl (ResV.agg rfl rfl) (ResV.tmp rfl) GivesTo.g (⟨none, 0, rfl, rfl⟩)
    · dsimp only at hp
      rw [List.take_of_length_le (show l.length ≤ i by omega)] at hp
      refine T_region ?_
      refine TL_y rfl rfl (Y_move rfl) ?_
      refine TL_y rfl rfl (Y_lt rfl rfl) ?_
      refine TL_name 41 (v' := .bool false) rfl (congrArg Value.bool (decide_eq_false (by omega))) ?_
      refine TL_nil ?_
      refine T_cond_false rfl ?_
      refine T_skip ?_
      refine thenS_normal ?_
      refine T_region ?_
      refine TL_y rfl rfl (Y_move rfl) ?_
      refine TL_y rfl rfl (Y_move rfl) ?_
      refine TL_index_n rfl rfl rfl (rfl) ((sln (A := A) (c := c))) (hu) ?_
      intro bn45 on45 hA45 hk45
      have hu45 := hu
      refine TL_y rfl rfl (Y_field_addr2 rfl) ?_
      refine TL_load_nx rfl rfl hk45 hu45 (fun _ => rfl) ?_
      intro p47 ok47
      simp only [List.cons_append, List.nil_append]
      refine TL_store rfl rfl rfl rfl rfl rfl ?_
      refine TL_y rfl rfl (Y_assign rfl) ?_
      refine TL_nil ?_
      refine T_ret ?_
      rw [hp]
      simp only [bestOr]
      exact RetG_2 (.inl rfl) rfl (ResV.agg rfl rfl) (ResV.tmp rfl) GivesTo.g (⟨p47.1, p47.2, rfl, rfl⟩)
theorem ballotPicks_walk {L : List HP} {A : Option Addr} {c : Nat} {l : List VotedD} (slot : Int) (hk : SlK L votedR A c l) (hl : l.length ≤ 1466015503701) : Fn Try.prog 3 #[.slice A l.length c, .int .i64 slot] L (fun v L' => v = .bool true ∧ L' = L) := by
  refine Fn_enter Try.func3 rfl rfl rfl rfl ?_
  refine T_gives hk.lay ?_
  refine T_region ?_
  refine TL_y rfl rfl (Y_assign rfl) ?_
  refine TL_nil ?_
  refine T_region ?_
  refine TL_build_slice rfl rfl rfl rfl rfl rfl ?_
  intro b13
  refine TL_osl (k := 0) votedR [] (Knows.const fun M => rfl) rfl (by simp) ?_
  refine TL_name 13 (v' := .slice (some ⟨b13, 0, none⟩) ([] : List VotedD).length 0) rfl rfl ?_
  refine TL_y rfl rfl (Y_move rfl) ?_
  refine TL_append rfl rfl rfl rfl rfl slk (by simp only [List.length_nil]; omega) ?_
  intro A15 c15
  refine TL_freeze_osl ?_
  rw [List.nil_append]
  refine TL_y rfl rfl (Y_move rfl) ?_
  refine TL_call rfl rfl (pick_spec (slk (A := A15) (c := c15)) slot) ?_
  rintro _ _ ⟨A17, c17, rfl, rfl⟩
  refine TL_y rfl rfl (Y_move rfl) ?_
  refine TL_y rfl rfl (Y_extract rfl rfl) ?_
  refine TL_y rfl rfl (Y_extract rfl rfl) ?_
  refine TL_alloc rfl rfl ?_
  intro b5
  refine TL_store rfl rfl rfl rfl rfl rfl ?_
  refine TL_y rfl rfl (Y_assign rfl) ?_
  refine TL_nil ?_
  refine T_region ?_
  refine TL_y rfl rfl (Y_move rfl) ?_
  refine TL_y rfl rfl (Y_move rfl) ?_
  refine TL_call rfl rfl (refPick_spec (slk (A := A) (c := c)) (by omega) slot) ?_
  rintro _ _ ⟨A23, c23, rfl, rfl⟩
  refine TL_y rfl rfl (Y_move rfl) ?_
  refine TL_y rfl rfl (Y_extract rfl rfl) ?_
  refine TL_y rfl rfl (Y_extract rfl rfl) ?_
  refine TL_alloc rfl rfl ?_
  intro b7
  refine TL_store rfl rfl rfl rfl rfl rfl ?_
  refine TL_y rfl rfl (Y_assign rfl) ?_
  refine TL_nil ?_
  refine T_region ?_
  refine TL_y rfl rfl (Y_move rfl) ?_
  refine TL_call rfl rfl (slots_spec (slk (A := A) (c := c)) hl) ?_
  rintro _ _ ⟨A27, c27, ys, rfl, rfl, hys⟩
  refine TL_freeze_osl ?_
  refine TL_y rfl rfl (Y_move rfl) ?_
  refine TL_call rfl rfl (refSlots_spec (slk (A := A) (c := c)) hl) ?_
  rintro _ _ ⟨A29, c29, zs, rfl, rfl, hzs⟩
  refine TL_freeze_osl ?_
  obtain rfl : zs = ys := incr_ext hzs.1 hys.1 (fun x => (hzs.2 x).trans (hys.2 x).symm)
  refine TL_y rfl rfl (Y_assign rfl) ?_
  refine TL_y rfl rfl (Y_assign rfl) ?_
  refine TL_nil ?_
  refine T_seq ?_
  refine T_region ?_
  refine TL_call rfl rfl (lives15_spec _) ?_
  rintro _ _ ⟨rfl, rfl⟩
  refine TL_name 30 (v' := .bool true) rfl (rfl) ?_
  refine TL_y rfl rfl (Y_not_t rfl) ?_
  refine TL_y rfl rfl (Y_move rfl) ?_
  refine TL_grun rfl rfl ?_
  refine TL_y rfl rfl (Y_load_agg rfl rfl) ?_
  refine TL_grun rfl rfl ?_
  refine TL_y rfl rfl (Y_load_agg rfl rfl) ?_
  refine TL_grun rfl rfl ?_
  refine TL_call rfl rfl (sameEntry_spec (bestOr (pickV slot l)).en (bestOr (pickV slot l)).en sln sln) ?_
  rintro _ _ ⟨rfl, rfl⟩
  refine TL_name 35 (v' := .bool true) rfl (congrArg Value.bool (by simp)) ?_
  refine TL_grun rfl rfl ?_
  refine TL_y rfl rfl (Y_not_t rfl) ?_
  refine TL_y rfl rfl (Y_pick_f rfl rfl) ?_
  refine TL_y rfl rfl (Y_move rfl) ?_
  refine TL_grun rfl rfl ?_
  refine TL_y rfl rfl (Y_move rfl) ?_
  refine TL_grun rfl rfl ?_
  refine TL_y rfl rfl (Y_move rfl) ?_
  refine TL_grun rfl rfl ?_
  refine TL_y rfl rfl (Y_unequal rfl rfl (EqIs.bool)) ?_
  refine TL_name 41 (v' := .bool false) rfl (congrArg Value.bool (by simp)) ?_
  refine TL_y rfl rfl (Y_pick_f rfl rfl) ?_
  refine TL_y rfl rfl (Y_move rfl) ?_
  refine TL_grun rfl rfl ?_
  refine TL_y rfl rfl (Y_move rfl) ?_
  refine TL_grun rfl rfl ?_
  refine TL_y rfl rfl (Y_len rfl) ?_
  refine TL_grun rfl rfl ?_
  refine TL_y rfl rfl (Y_move rfl) ?_
  refine TL_grun rfl rfl ?_
  refine TL_y rfl rfl (Y_len rfl) ?_
  refine TL_grun rfl rfl ?_
  refine TL_y rfl rfl (Y_ne rfl rfl) ?_
  refine TL_name 48 (v' := .bool false) rfl (congrArg Value.bool (by simp)) ?_
  refine TL_y rfl rfl (Y_pick_f rfl rfl) ?_
  refine TL_nil ?_
  refine T_cond_false rfl ?_
  refine T_skip ?_
  refine thenS_normal ?_
  refine T_seq ?_
  refine T_region ?_
  refine TL_y rfl rfl (Y_assign rfl) ?_
  refine TL_nil ?_
  refine T_block ?_
  refine T_loopK (σ := Nat) [9, 10] (fun i => i ≤ zs.length) (fun i kv => (11, .int .i64 (i : Int)) :: kv) (fun i => sl (intR .i64) A29 c29 zs :: sl (intR .i64) A27 c27 zs :: L) (fun i => zs.length - i) (0) rfl (Nat.zero_le _) (GivesTo.g) (sub_cons rfl (sub_cons rfl (sub_cons rfl (sub_nil)))) ?_
  intro i hil
  refine T_seq ?_
  refine SlN.lens (sln (A := A29) (c := c29)) fun hlx => ?_
  simp only [maxEl] at hlx
  refine T_region ?_
  refine TL_y rfl rfl (Y_move rfl) ?_
  refine TL_y rfl rfl (Y_move rfl) ?_
  refine TL_y rfl rfl (Y_len rfl) ?_
  refine TL_y rfl rfl (Y_lt rfl rfl) ?_
  refine TL_nil ?_
  refine T_if rfl (fun h53 => ?_) (fun h53 => ?_)
  · refine T_skip ?_
    refine thenS_normal ?_
    refine T_seq ?_
    refine T_block ?_
    have hx := List.getElem?_eq_getElem (show i < zs.length by omega)
    refine T_addr_n (sln (A := A27) (c := c27)) hx fun b1 o1 e1 => ?_
    refine T_addr_n (sln (A := A29) (c := c29)) hx fun b2 o2 e2 => ?_
    subst e1
    subst e2
    refine T_region_draw _ [0, 0, 3, 7, 0, 0, 48, 112, 255] [] [(0, true), (1, true), (2, true), (3, true), (4, true), (5, true), (6, true), (7, true), (8, true)] (by kernel_rfl) (by decide +kernel) (Gives.refl _) ?_
    refine TF_y rfl rfl (Y_move rfl) ?_
    refine TF_y rfl rfl (Y_move rfl) ?_
    refine TF_y rfl rfl (Y_index_n (R := intR .i64) (xs := zs) rfl rfl rfl hx) ?_
    refine TF_y rfl rfl (Y_load_n (R := intR .i64) (c := c27) (q := 0) rfl sln hx rfl) ?_
    refine TF_y rfl rfl (Y_move rfl) ?_
    refine TF_y rfl rfl (Y_move rfl) ?_
    refine TF_y rfl rfl (Y_index_n (R := intR .i64) (xs := zs) rfl rfl rfl hx) ?_
    refine TF_y rfl rfl (Y_load_n (R := intR .i64) (c := c29) (q := 0) rfl sln hx rfl) ?_
    refine TF_y rfl rfl (Y_ne rfl rfl) ?_
    refine TF_name 64 (v' := .bool false) rfl (congrArg Value.bool (by simp)) ?_
    refine TF_nil ?_
    refine T_cond_false rfl ?_
    refine T_skip ?_
    refine inB_normal ?_
    refine thenS_normal ?_
    refine T_region_last ?_
    refine TL_y rfl rfl (Y_move rfl) ?_
    refine TL_y rfl rfl (Y_add rfl rfl (by omega)) ?_
    refine TL_name 55 (v' := .int .i64 ((i + 1 : Nat) : Int)) rfl (rfl) ?_
    refine TL_y rfl rfl (Y_assign rfl) ?_
    refine TL_nil ?_
    refine thenS_normal ?_
    exact ⟨i + 1, (by omega), by omega, holds_to (sub_cons rfl (sub_cons rfl (sub_cons rfl (sub_nil)))) GivesTo.g⟩
  · refine T_exit ?_
    refine thenS_exit ?_
    refine thenS_exit ?_
    refine inB_hit ?_
    refine thenS_normal ?_
    refine T_region ?_
    refine TL_y rfl rfl (Y_assign rfl) ?_
    refine TL_nil ?_
    refine T_ret ?_
    exact RetG_1 (.inl rfl) rfl (ResV.tmp rfl) GivesTo.g (⟨rfl, rfl⟩)
end Go.SL
