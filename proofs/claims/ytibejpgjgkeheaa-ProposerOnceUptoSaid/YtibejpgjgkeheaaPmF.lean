/- What the laws of this claim need, together: the logic, data in memory, the walks of functions. -/
import Derived.Test.YtibejpgjgkeheaaPmE
set_option linter.unusedVariables false
set_option linter.unusedSimpArgs false
set_option linter.unusedVariables false
set_option linter.unusedSimpArgs false
namespace Go.SL
open Go Go.Proofs
theorem kpA_ok (v : List VotedD) : MsgOk (kpA v) := smallOk (by simp) noopOk
theorem kpB_ok (v : List VotedD) : MsgOk (kpB v) := smallOk (by simp) noopOk
structure KfI (W : List VotedD) (k : Nat) (F : List VotedD) : Prop where
  en : ∀ u ∈ F, u.en = keptE W u.slot
  all : ∀ s : Int, 0 ≤ s → s < k → ∃ u ∈ F, u.slot = s
theorem kf_of {q : PP} (h : q.F = []) (h0 : q.frm = 0) (W : List VotedD) (k : Nat) : KfI W k (flightsV (leadK q W k).1) := by
  obtain ⟨h1, h2⟩ := leadK_fl h W k
  have hm : ∀ {u}, u ∈ flightsV (leadK q W k).1 → ∃ f ∈ (leadK q W k).1.F, u.slot = f.slot ∧ u.en = f.en := fun {u} hu => by
    obtain ⟨f, hf, rfl⟩ := List.mem_map.1 hu
    exact ⟨f, List.mem_reverse.1 hf, rfl, rfl⟩
  refine ⟨fun u hu => ?_, fun s hs hk => ?_⟩
  · obtain ⟨f, hf, e1, e2⟩ := hm hu
    rw [e1, e2]; exact h1 f hf
  · obtain ⟨f, hf, rfl⟩ := h2 s (by omega) (by omega)
    exact ⟨_, List.mem_map.2 ⟨f, List.mem_reverse.2 hf, rfl⟩, rfl⟩
theorem proposerKeeps_walk {L : List HP} {A A2 : Option Addr} {c c2 : Nat} {votes more : List VotedD} (slot : Int) (hk : SlK L votedR A c votes) (hk2 : SlK L votedR A2 c2 more) (hb : cVoteds votes ≤ 140737488355000) (hb2 : cVoteds more ≤ 140737488355000) (hl : votes.length ≤ 16777216) (hl2 : more.length ≤ 16777216) : Fn Try.prog 9 #[.slice A votes.length c, .slice A2 more.length c2, .int .i64 slot] L (fun v L' => v = .bool true ∧ L' = L) := by
  refine Fn_enter Try.func9 rfl rfl rfl rfl ?_
  refine T_gives hk2.lay ?_
  refine T_gives hk.tail.lay ?_
  refine T_region ?_
  refine TL_y rfl rfl (Y_assign rfl) ?_
  refine TL_nil ?_
  refine T_region ?_
  refine TL_call rfl rfl (prNew_ok (node := 0) (nodes := 3) (by decide) (by decide) _) ?_
  rintro _ _ ⟨b22, rfl, rfl⟩
  refine TL_y rfl rfl (Y_move rfl) ?_
  refine TL_y rfl rfl (Y_extract rfl rfl) ?_
  refine TL_y rfl rfl (Y_extract rfl rfl) ?_
  refine TL_y rfl rfl (Y_assign rfl) ?_
  refine TL_y rfl rfl (Y_assign rfl) ?_
  refine TL_nil ?_
  refine T_seq ?_
  refine T_region ?_
  refine TL_call rfl rfl (lives17_spec _) ?_
  rintro _ _ ⟨rfl, rfl⟩
  refine TL_name 25 (v' := .bool true) rfl (rfl) ?_
  refine TL_y rfl rfl (Y_not_t rfl) ?_
  refine TL_y rfl rfl (Y_move rfl) ?_
  refine TL_grun rfl rfl ?_
  refine TL_y rfl rfl (Y_move rfl) ?_
  refine TL_grun rfl rfl ?_
  refine TL_y rfl rfl (Y_ne rfl rfl) ?_
  refine TL_name 29 (v' := .bool false) rfl (congrArg Value.bool (decide_eq_false (by decide))) ?_
  refine TL_y rfl rfl (Y_pick_f rfl rfl) ?_
  refine TL_y rfl rfl (Y_move rfl) ?_
  refine TL_grun rfl rfl ?_
  refine TL_y rfl rfl (Y_move rfl) ?_
  refine TL_grun rfl rfl ?_
  refine TL_y rfl rfl (Y_equal rfl rfl (EqIs.ptr_nil)) ?_
  refine TL_name 33 (v' := .bool false) rfl (by simp) ?_
  refine TL_y rfl rfl (Y_pick_f rfl rfl) ?_
  refine TL_nil ?_
  refine T_cond_false rfl ?_
  refine T_skip ?_
  refine thenS_normal ?_
  refine T_region ?_
  refine TL_y rfl rfl (Y_build rfl rfl) ?_
  refine TL_alloc rfl rfl ?_
  intro b9
  refine TL_store rfl rfl rfl rfl rfl rfl ?_
  refine TL_nil ?_
  refine T_seq ?_
  refine T_region ?_
  refine TL_y rfl rfl (Y_move rfl) ?_
  refine TL_y rfl rfl (Y_build rfl rfl) ?_
  refine TL_pullk b22 ?_
  refine TL_call rfl rfl (prStart_spec (p := ppNew 0 3) (9, 0) 0) ?_
  rintro _ _ ⟨A39, c39, rfl, rfl⟩
  rw [kp_s, kp_e]
  refine TL_y rfl rfl (Y_move rfl) ?_
  refine TL_y rfl rfl (Y_extract rfl rfl) ?_
  refine TL_y rfl rfl (Y_extract rfl rfl) ?_
  refine TL_y rfl rfl (Y_assign rfl) ?_
  refine TL_y rfl rfl (Y_assign rfl) ?_
  refine TL_nil ?_
  refine T_region ?_
  refine TL_y rfl rfl (Y_move rfl) ?_
  refine TL_y rfl rfl (Y_ne rfl rfl) ?_
  refine TL_name 43 (v' := .bool false) rfl (congrArg Value.bool (decide_eq_false (by decide))) ?_
  refine TL_nil ?_
  refine T_cond_false rfl ?_
  refine T_skip ?_
  refine thenS_normal ?_
  refine T_rd [0, 1, 0, 0, 15, 0, 63] (by kernel_rfl) (by decide +kernel) ?_
  refine RD_pair 1 5 (by decide) ?_ ?_
  · refine RD_leaf (pr b22 kp1 :: cells b9 [.bool true, .string ⟨#[]⟩, .string ⟨#[]⟩, .int .i64 0, .slice none 0 0] 27 :: []) [0, 1, 0, 0, 15, 3, 63] [] [(0, true), (2, true), (3, true), (1, false), (4, true), (5, false), (6, false)] (by decide +kernel) GivesTo.g ?_
    refine TF_y rfl rfl (Y_move rfl) ?_
    refine TF_y rfl rfl (Y_load_agg rfl rfl) ?_
    refine TF_y rfl rfl (Y_move rfl) ?_
    refine TF_anchor rfl ?_
    refine TL_pullk b22 ?_
    refine TL_call rfl rfl (prBallot_spec) ?_
    rintro _ _ ⟨rfl, rfl⟩
    refine TF_end GivesTo.g ?_
    refine TF_y rfl rfl (Y_build rfl rfl) ?_
    refine TF_anchor rfl ?_
    refine TL_alloc rfl rfl ?_
    intro b12
    refine TF_end GivesTo.g ?_
    refine TF_anchor rfl ?_
    refine TL_store rfl rfl rfl rfl rfl rfl ?_
    refine TF_end GivesTo.g ?_
    refine TF_nil ?_
    refine thenS_normal ?_
    refine T_rd [0, 1, 0, 0, 15, 0, 63] (by kernel_rfl) (by decide +kernel) ?_
    refine RD_pair 1 5 (by decide) ?_ ?_
    · refine RD_leaf (pr b22 kp1 :: cells b9 [.bool true, .string ⟨#[]⟩, .string ⟨#[]⟩, .int .i64 0, .slice none 0 0] 27 :: []) [0, 1, 0, 0, 15, 3, 63] [] [(0, true), (2, true), (3, true), (1, false), (4, true), (5, false), (6, false)] (by decide +kernel) GivesTo.g ?_
      refine TF_y rfl rfl (Y_move rfl) ?_
      refine TF_y rfl rfl (Y_load_agg rfl rfl) ?_
      refine TF_y rfl rfl (Y_move rfl) ?_
      refine TF_anchor rfl ?_
      refine TL_pullk b22 ?_
      refine TL_call rfl rfl (prBallot_spec) ?_
      rintro _ _ ⟨rfl, rfl⟩
      refine TF_end GivesTo.g ?_
      refine TF_y rfl rfl (Y_build rfl rfl) ?_
      refine TF_anchor rfl ?_
      refine TL_alloc rfl rfl ?_
      intro b13
      refine TF_end GivesTo.g ?_
      refine TF_anchor rfl ?_
      refine TL_store rfl rfl rfl rfl rfl rfl ?_
      refine TF_end GivesTo.g ?_
      refine TF_nil ?_
      refine thenS_normal ?_
      refine T_region ?_
      refine TL_y rfl rfl (Y_move rfl) ?_
      refine TL_y rfl rfl (Y_load_agg rfl rfl) ?_
      refine TL_pullk b22 ?_
      refine TL_call rfl rfl (prOn_spec (p := kp1) (kpA votes) ⟨(none, 0), (A, c), (none, 0), (none, 0)⟩ (kpA_ok votes) ⟨slnil, slk, slnil, slnil⟩ (show cSeal noopE.order + cVoteds votes + 10 * 0 + 0 + 200 ≤ 140737488355328 from by have : cSeal noopE.order = 60 := rfl; omega)) ?_
      rintro _ _ ⟨A56, c56, B56, d56, rfl, rfl⟩
      refine TL_nil ?_
      refine T_region ?_
      refine TL_y rfl rfl (Y_move rfl) ?_
      refine TL_y rfl rfl (Y_load_agg rfl rfl) ?_
      refine TL_pullk b22 ?_
      refine TL_call rfl rfl (prOn_spec (p := (onP kp1 (kpA votes)).1) (kpB more) ⟨(none, 0), (A2, c2), (none, 0), (none, 0)⟩ (kpB_ok more) ⟨slnil, slk, slnil, slnil⟩ (show cSeal noopE.order + cVoteds more + 10 * 0 + 0 + 200 ≤ 140737488355328 from by have : cSeal noopE.order = 60 := rfl; omega)) ?_
      rintro _ _ ⟨A59, c59, B59, d59, rfl, rfl⟩
      rw [show (onP (onP kp1 (kpA votes)).1 (kpB more)).1 = kp3 votes more from rfl]
      refine TL_nil ?_
      refine T_seq ?_
      refine T_region ?_
      refine TL_y rfl rfl (Y_move rfl) ?_
      refine TL_pullk b22 ?_
      refine TL_call rfl rfl (prPhase_spec) ?_
      rintro _ _ ⟨rfl, rfl⟩
      refine TL_y rfl rfl (Y_ne rfl rfl) ?_
      refine TL_nil ?_
      refine T_if rfl (fun h62 => ?_) (fun h62 => ?_)
      · refine T_region ?_
        refine TL_y rfl rfl (Y_assign rfl) ?_
        refine TL_nil ?_
        refine T_ret ?_
        refine thenS_ret ?_
        exact RetG_1 (.inl rfl) rfl (ResV.tmp rfl) GivesTo.g (⟨rfl, rfl⟩)
      · refine T_skip ?_
        refine thenS_normal ?_
        obtain ⟨q, k, hqF, hqf, hin, hP⟩ := kp_lead (Classical.not_not.1 h62)
        have hKf := kf_of hqF hqf (votes ++ more) k
        rw [← hP] at hKf
        refine T_region ?_
        refine TL_build_slice rfl rfl rfl rfl rfl rfl ?_
        intro b63
        refine TL_osl (k := 0) votedR [] (Knows.const fun M => rfl) rfl (by simp) ?_
        refine TL_name 63 (v' := .slice (some ⟨b63, 0, none⟩) ([] : List VotedD).length 0) rfl rfl ?_
        refine TL_y rfl rfl (Y_move rfl) ?_
        refine TL_append rfl rfl rfl rfl rfl slk (by simp only [List.length_nil]; omega) ?_
        intro A65 c65
        rw [List.nil_append]
        refine TL_y rfl rfl (Y_move rfl) ?_
        refine TL_append rfl rfl rfl rfl rfl slk (by omega) ?_
        intro A67 c67
        refine TL_freeze_osl ?_
        refine TL_y rfl rfl (Y_assign rfl) ?_
        refine TL_nil ?_
        refine T_region ?_
        refine TL_y rfl rfl (Y_assign rfl) ?_
        refine TL_nil ?_
        refine T_seq ?_
        refine T_region ?_
        refine TL_y rfl rfl (Y_assign rfl) ?_
        refine TL_nil ?_
        refine T_block ?_
        refine T_loopK (σ := RpSt) [2, 7, 14] (fun g => g.i ≤ (votes ++ more).length ∧ RpI (votes ++ more) slot g) (fun g kv => (16, .int .i64 (g.i : Int)) :: (15, .int .i64 g.r) :: kv) (fun g => sl votedR A67 c67 (votes ++ more) :: pr b22 (kp3 votes more) :: L) (fun g => (votes ++ more).length - g.i) (⟨0, -1⟩) rfl (⟨Nat.zero_le _, .inl ⟨rfl, rfl⟩⟩) (GivesTo.g) (sub_cons rfl (sub_cons rfl (sub_cons rfl (sub_cons rfl (sub_cons rfl (sub_nil)))))) ?_
        rintro ⟨i, r⟩ ⟨hil, hri⟩
        dsimp only at hil ⊢
        have hlW : (votes ++ more).length = votes.length + more.length := List.length_append
        refine T_seq ?_
        refine T_region ?_
        refine TL_y rfl rfl (Y_move rfl) ?_
        refine TL_y rfl rfl (Y_move rfl) ?_
        refine TL_y rfl rfl (Y_len rfl) ?_
        refine TL_y rfl rfl (Y_lt rfl rfl) ?_
        refine TL_nil ?_
        refine T_if rfl (fun h71 => ?_) (fun h71 => ?_)
        · refine T_skip ?_
          refine thenS_normal ?_
          refine T_seq ?_
          refine T_block ?_
          refine T_seq ?_
          rcases hri with ⟨rfl, hp⟩ | ⟨j, u, rfl, hu, hp⟩
          · obtain ⟨v, hv⟩ : ∃ v, (votes ++ more)[i]? = some v := ⟨_, List.getElem?_eq_getElem (by omega)⟩
            have hnx := pickV_next (slot := slot) hv
            refine T_addr_n (sln (A := A67) (c := c67)) hv fun bl ol el => ?_
            subst el
            dsimp only at hp
            refine T_region ?_
            refine TL_y rfl rfl (Y_move rfl) ?_
            refine TL_y rfl rfl (Y_move rfl) ?_
            refine TL_y rfl rfl (Y_index_n (R := votedR) (xs := votes ++ more) rfl rfl rfl hv) ?_
            refine TL_y rfl rfl (Y_field_addr2 rfl) ?_
            refine TL_y rfl rfl (Y_load_nx (xs := votes ++ more) (u := v) (v := .int .i64 v.slot) rfl (sln (c := c67)) hv (fun _ ↦ rfl)) ?_
            refine TL_y rfl rfl (Y_move rfl) ?_
            refine TL_y rfl rfl (Y_ne rfl rfl) ?_
            refine TL_nil ?_
            refine T_if rfl (fun h80 => ?_) (fun h80 => ?_)
            · refine T_exit ?_
              refine thenS_exit ?_
              refine inB_hit ?_
              refine thenS_normal ?_
              refine T_region_last ?_
              refine TL_y rfl rfl (Y_move rfl) ?_
              refine TL_y rfl rfl (Y_add rfl rfl (by omega)) ?_
              refine TL_name 73 (v' := .int .i64 ((i + 1 : Nat) : Int)) rfl (rfl) ?_
              refine TL_y rfl rfl (Y_assign rfl) ?_
              refine TL_nil ?_
              refine thenS_normal ?_
              exact ⟨⟨i + 1, -1⟩, ⟨by simp only; omega, .inl ⟨rfl, by rw [hnx, better_no h80, hp]⟩⟩, by simp only; omega, holds_to (sub_cons rfl (sub_cons rfl (sub_cons rfl (sub_cons rfl (sub_cons rfl (sub_nil)))))) GivesTo.g⟩
            · refine T_skip ?_
              refine thenS_normal ?_
              refine T_region ?_
              refine TL_y rfl rfl (Y_move rfl) ?_
              refine TL_y rfl rfl (Y_move rfl) ?_
              refine TL_y rfl rfl (Y_index_n (R := votedR) (xs := votes ++ more) rfl rfl rfl hv) ?_
              refine TL_y rfl rfl (Y_field_addr2 rfl) ?_
              refine TL_y rfl rfl (Y_load_nxa (xs := votes ++ more) (u := v) (vs := [.int .i64 v.bal.1, .int .i64 v.bal.2]) rfl (sln (c := c67)) hv (fun _ ↦ rfl)) ?_
              refine TL_y rfl rfl (Y_build rfl rfl) ?_
              refine TL_alloc rfl rfl ?_
              intro b17
              refine TL_alloc rfl rfl ?_
              intro b18
              refine TL_store rfl rfl rfl rfl rfl rfl ?_
              refine TL_store rfl rfl rfl rfl rfl rfl ?_
              refine TL_nil ?_
              refine T_seq ?_
              refine T_region ?_
              refine TL_y rfl rfl (Y_move rfl) ?_
              refine TL_y rfl rfl (Y_ge rfl rfl) ?_
              refine TL_name 88 (v' := .bool false) rfl (congrArg Value.bool (decide_eq_false (by omega))) ?_
              refine TL_nil ?_
              refine T_cond_false rfl ?_
              refine T_skip ?_
              refine thenS_normal ?_
              refine T_region ?_
              refine TL_y rfl rfl (Y_move rfl) ?_
              refine TL_y rfl rfl (Y_lt rfl rfl) ?_
              refine TL_name 95 (v' := .bool true) rfl (congrArg Value.bool (decide_eq_true (by omega))) ?_
              refine TL_y rfl rfl (Y_move rfl) ?_
              refine TL_gskip rfl rfl rfl rfl ?_
              refine TL_gskip rfl rfl rfl rfl ?_
              refine TL_gskip rfl rfl rfl rfl ?_
              refine TL_gskip rfl rfl rfl rfl ?_
              refine TL_gskip rfl rfl rfl rfl ?_
              refine TL_y rfl rfl (Y_pick_t rfl rfl) ?_
              refine TL_y rfl rfl (Y_move rfl) ?_
              refine TL_gskip rfl rfl rfl rfl ?_
              refine TL_gskip rfl rfl rfl rfl ?_
              refine TL_gskip rfl rfl rfl rfl ?_
              refine TL_gskip rfl rfl rfl rfl ?_
              refine TL_gskip rfl rfl rfl rfl ?_
              refine TL_gskip rfl rfl rfl rfl ?_
              refine TL_gskip_u rfl rfl rfl ?_
              refine TL_gskip_u rfl rfl rfl ?_
              refine TL_gskip_u rfl rfl rfl ?_
              refine TL_gskip_u rfl rfl rfl ?_
              refine TL_gskip_u rfl rfl rfl ?_
              refine TL_gskip rfl rfl rfl rfl ?_
              refine TL_y rfl rfl (Y_pick_t rfl rfl) ?_
              refine TL_nil ?_
              refine T_cond_true rfl ?_
              refine T_region_last ?_
              refine TL_y rfl rfl (Y_move rfl) ?_
              refine TL_y rfl rfl (Y_assign rfl) ?_
              refine TL_nil ?_
              refine inB_normal ?_
              refine thenS_normal ?_
              refine T_region_last ?_
              refine TL_y rfl rfl (Y_move rfl) ?_
              refine TL_y rfl rfl (Y_add rfl rfl (by omega)) ?_
              refine TL_name 73 (v' := .int .i64 ((i + 1 : Nat) : Int)) rfl (rfl) ?_
              refine TL_y rfl rfl (Y_assign rfl) ?_
              refine TL_nil ?_
              refine thenS_normal ?_
              exact ⟨⟨i + 1, (i : Int)⟩, ⟨by simp only; omega, .inr ⟨i, v, rfl, hv, by rw [hnx, better_first (Classical.not_not.1 h80) (by rw [hp]; rfl)]⟩⟩, by simp only; omega, holds_to (sub_cons rfl (sub_cons rfl (sub_cons rfl (sub_cons rfl (sub_cons rfl (sub_nil)))))) GivesTo.g⟩
          · obtain ⟨v, hv⟩ : ∃ v, (votes ++ more)[i]? = some v := ⟨_, List.getElem?_eq_getElem (by omega)⟩
            have hnx := pickV_next (slot := slot) hv
            refine T_addr_n (sln (A := A67) (c := c67)) hv fun bl ol el => ?_
            subst el
            dsimp only at hp
            refine T_region ?_
            refine TL_y rfl rfl (Y_move rfl) ?_
            refine TL_y rfl rfl (Y_move rfl) ?_
            refine TL_y rfl rfl (Y_index_n (R := votedR) (xs := votes ++ more) rfl rfl rfl hv) ?_
            refine TL_y rfl rfl (Y_field_addr2 rfl) ?_
            refine TL_y rfl rfl (Y_load_nx (xs := votes ++ more) (u := v) (v := .int .i64 v.slot) rfl (sln (c := c67)) hv (fun _ ↦ rfl)) ?_
            refine TL_y rfl rfl (Y_move rfl) ?_
            refine TL_y rfl rfl (Y_ne rfl rfl) ?_
            refine TL_nil ?_
            refine T_if rfl (fun h80 => ?_) (fun h80 => ?_)
            · refine T_exit ?_
              refine thenS_exit ?_
              refine inB_hit ?_
              refine thenS_normal ?_
              refine T_region_last ?_
              refine TL_y rfl rfl (Y_move rfl) ?_
              refine TL_y rfl rfl (Y_add rfl rfl (by omega)) ?_
              refine TL_name 73 (v' := .int .i64 ((i + 1 : Nat) : Int)) rfl (rfl) ?_
              refine TL_y rfl rfl (Y_assign rfl) ?_
              refine TL_nil ?_
              refine thenS_normal ?_
              exact ⟨⟨i + 1, (j : Int)⟩, ⟨by simp only; omega, .inr ⟨j, u, rfl, hu, by rw [hnx, better_no h80, hp]⟩⟩, by simp only; omega, holds_to (sub_cons rfl (sub_cons rfl (sub_cons rfl (sub_cons rfl (sub_cons rfl (sub_nil)))))) GivesTo.g⟩
            · refine T_skip ?_
              refine thenS_normal ?_
              refine T_region ?_
              refine TL_y rfl rfl (Y_move rfl) ?_
              refine TL_y rfl rfl (Y_move rfl) ?_
              refine TL_y rfl rfl (Y_index_n (R := votedR) (xs := votes ++ more) rfl rfl rfl hv) ?_
              refine TL_y rfl rfl (Y_field_addr2 rfl) ?_
              refine TL_y rfl rfl (Y_load_nxa (xs := votes ++ more) (u := v) (vs := [.int .i64 v.bal.1, .int .i64 v.bal.2]) rfl (sln (c := c67)) hv (fun _ ↦ rfl)) ?_
              refine TL_y rfl rfl (Y_build rfl rfl) ?_
              refine TL_alloc rfl rfl ?_
              intro b17
              refine TL_alloc rfl rfl ?_
              intro b18
              refine TL_store rfl rfl rfl rfl rfl rfl ?_
              refine TL_store rfl rfl rfl rfl rfl rfl ?_
              refine TL_nil ?_
              refine T_seq ?_
              refine T_region ?_
              refine TL_y rfl rfl (Y_move rfl) ?_
              refine TL_y rfl rfl (Y_ge rfl rfl) ?_
              refine TL_name 88 (v' := .bool true) rfl (congrArg Value.bool (decide_eq_true (by omega))) ?_
              refine TL_nil ?_
              refine T_cond_true rfl ?_
              refine T_region_last ?_
              refine TL_y rfl rfl (Y_move rfl) ?_
              refine TL_y rfl rfl (Y_move rfl) ?_
              refine TL_y rfl rfl (Y_index_n (R := votedR) (xs := votes ++ more) rfl rfl rfl hu) ?_
              refine TL_y rfl rfl (Y_field_addr2 rfl) ?_
              refine TL_y rfl rfl (Y_load_nxa (xs := votes ++ more) (u := u) (vs := [.int .i64 u.bal.1, .int .i64 u.bal.2]) rfl (sln (c := c67)) hu (fun _ ↦ rfl)) ?_
              refine TL_store rfl rfl rfl rfl rfl rfl ?_
              refine TL_nil ?_
              refine thenS_normal ?_
              refine T_region ?_
              refine TL_y rfl rfl (Y_move rfl) ?_
              refine TL_y rfl rfl (Y_lt rfl rfl) ?_
              refine TL_name 95 (v' := .bool false) rfl (congrArg Value.bool (decide_eq_false (by omega))) ?_
              refine TL_y rfl rfl (Y_move rfl) ?_
              refine TL_both 20 116 ((0 < cmpB v.bal u.bal)) ?_ ?_
              · refine TL_grun rfl rfl ?_
                refine TL_y rfl rfl (Y_field_addr rfl) ?_
                refine TL_grun rfl rfl ?_
                refine TL_y rfl rfl (Y_load rfl rfl) ?_
                refine TL_grun rfl rfl ?_
                refine TL_y rfl rfl (Y_field_addr rfl) ?_
                refine TL_grun rfl rfl ?_
                refine TL_y rfl rfl (Y_load rfl rfl) ?_
                refine TL_grun rfl rfl ?_
                refine TL_y rfl rfl (Y_gt rfl rfl) ?_
                refine TL_y rfl rfl (Y_pick_f rfl rfl) ?_
                refine TL_y rfl rfl (Y_move rfl) ?_
                refine TL_splitd 103 rfl (fun h103 => ?_) (fun h103 => ?_)
                · refine TL_gskip rfl rfl rfl rfl ?_
                  refine TL_gskip rfl rfl rfl rfl ?_
                  refine TL_gskip rfl rfl rfl rfl ?_
                  refine TL_gskip rfl rfl rfl rfl ?_
                  refine TL_gskip rfl rfl rfl rfl ?_
                  refine TL_gskip rfl rfl rfl rfl ?_
                  refine TL_gskip_u rfl rfl rfl ?_
                  refine TL_gskip_u rfl rfl rfl ?_
                  refine TL_gskip_u rfl rfl rfl ?_
                  refine TL_gskip_u rfl rfl rfl ?_
                  refine TL_gskip_u rfl rfl rfl ?_
                  refine TL_gskip rfl rfl rfl rfl ?_
                  refine TL_y rfl rfl (Y_pick_t rfl rfl) ?_
                  refine TL_chain_end rfl ?_ (by repeat (first | exact sub_refl | refine sub_ext rfl ?_)) GivesTo.g
                  exact congrArg Value.bool (decide_eq_true (by rw [cmp_gtB]; unfold ltB; omega)).symm
                · refine TL_grun rfl rfl ?_
                  refine TL_y rfl rfl (Y_field_addr rfl) ?_
                  refine TL_grun rfl rfl ?_
                  refine TL_y rfl rfl (Y_load rfl rfl) ?_
                  refine TL_grun rfl rfl ?_
                  refine TL_y rfl rfl (Y_field_addr rfl) ?_
                  refine TL_grun rfl rfl ?_
                  refine TL_y rfl rfl (Y_load rfl rfl) ?_
                  refine TL_grun rfl rfl ?_
                  refine TL_y rfl rfl (Y_eq rfl rfl) ?_
                  refine TL_grun rfl rfl ?_
                  refine TL_y rfl rfl (Y_move rfl) ?_
                  refine TL_splitd 109 rfl (fun h109 => ?_) (fun h109 => ?_)
                  · refine TL_grun rfl rfl ?_
                    refine TL_y rfl rfl (Y_field_addr rfl) ?_
                    refine TL_grun rfl rfl ?_
                    refine TL_y rfl rfl (Y_load rfl rfl) ?_
                    refine TL_grun rfl rfl ?_
                    refine TL_y rfl rfl (Y_field_addr rfl) ?_
                    refine TL_grun rfl rfl ?_
                    refine TL_y rfl rfl (Y_load rfl rfl) ?_
                    refine TL_grun rfl rfl ?_
                    refine TL_y rfl rfl (Y_gt rfl rfl) ?_
                    refine TL_grun rfl rfl ?_
                    refine TL_y rfl rfl (Y_pick_t rfl rfl) ?_
                    refine TL_y rfl rfl (Y_pick_f rfl rfl) ?_
                    refine TL_chain_end rfl ?_ (by repeat (first | exact sub_refl | refine sub_ext rfl ?_)) GivesTo.g
                    exact congrArg Value.bool (decide_eq_decide.2 (by rw [cmp_gtB]; unfold ltB; omega))
                  · refine TL_gskip rfl rfl rfl rfl ?_
                    refine TL_gskip rfl rfl rfl rfl ?_
                    refine TL_gskip rfl rfl rfl rfl ?_
                    refine TL_gskip rfl rfl rfl rfl ?_
                    refine TL_gskip rfl rfl rfl rfl ?_
                    refine TL_grun rfl rfl ?_
                    refine TL_y rfl rfl (Y_pick_f rfl rfl) ?_
                    refine TL_y rfl rfl (Y_pick_f rfl rfl) ?_
                    refine TL_chain_end rfl ?_ (by repeat (first | exact sub_refl | refine sub_ext rfl ?_)) GivesTo.g
                    exact congrArg Value.bool (decide_eq_false (by rw [cmp_gtB]; unfold ltB; omega)).symm
              refine TL_nil ?_
              refine T_if rfl (fun h116 => ?_) (fun h116 => ?_)
              · refine T_region_last ?_
                refine TL_y rfl rfl (Y_move rfl) ?_
                refine TL_y rfl rfl (Y_assign rfl) ?_
                refine TL_nil ?_
                refine inB_normal ?_
                refine thenS_normal ?_
                refine T_region_last ?_
                refine TL_y rfl rfl (Y_move rfl) ?_
                refine TL_y rfl rfl (Y_add rfl rfl (by omega)) ?_
                refine TL_name 73 (v' := .int .i64 ((i + 1 : Nat) : Int)) rfl (rfl) ?_
                refine TL_y rfl rfl (Y_assign rfl) ?_
                refine TL_nil ?_
                refine thenS_normal ?_
                exact ⟨⟨i + 1, (i : Int)⟩, ⟨by simp only; omega, .inr ⟨i, v, rfl, hv, by rw [hnx, better_more (Classical.not_not.1 h80) (by rw [hp]; rfl) (by rw [hp]; exact h116)]⟩⟩, by simp only; omega, holds_to (sub_cons rfl (sub_cons rfl (sub_cons rfl (sub_cons rfl (sub_cons rfl (sub_nil)))))) GivesTo.g⟩
              · refine T_skip ?_
                refine inB_normal ?_
                refine thenS_normal ?_
                refine T_region_last ?_
                refine TL_y rfl rfl (Y_move rfl) ?_
                refine TL_y rfl rfl (Y_add rfl rfl (by omega)) ?_
                refine TL_name 73 (v' := .int .i64 ((i + 1 : Nat) : Int)) rfl (rfl) ?_
                refine TL_y rfl rfl (Y_assign rfl) ?_
                refine TL_nil ?_
                refine thenS_normal ?_
                exact ⟨⟨i + 1, (j : Int)⟩, ⟨by simp only; omega, .inr ⟨j, u, rfl, hu, by rw [hnx, better_less (Classical.not_not.1 h80) (by rw [hp]; rfl) (by rw [hp]; exact h116), hp]⟩⟩, by simp only; omega, holds_to (sub_cons rfl (sub_cons rfl (sub_cons rfl (sub_cons rfl (sub_cons rfl (sub_nil)))))) GivesTo.g⟩
        · refine T_exit ?_
          refine thenS_exit ?_
          refine thenS_exit ?_
          refine inB_hit ?_
          refine thenS_normal ?_
          rcases hri with ⟨rfl, hp⟩ | ⟨j, u, rfl, hu, hp⟩
          · dsimp only at hp
            rw [List.take_of_length_le (show (votes ++ more).length ≤ i by omega)] at hp
            refine T_region ?_
            refine TL_y rfl rfl (Y_move rfl) ?_
            refine TL_pullk b22 ?_
            refine TL_call rfl rfl (prFlights_spec) ?_
            rintro _ _ ⟨A119, c119, rfl, rfl⟩
            refine TL_freeze_osl ?_
            refine TL_y rfl rfl (Y_assign rfl) ?_
            refine TL_nil ?_
            refine T_seq ?_
            refine T_region ?_
            refine TL_y rfl rfl (Y_assign rfl) ?_
            refine TL_nil ?_
            refine T_block ?_
            refine T_loopK (σ := Nat) [2, 14, 15, 19] (fun i => i ≤ (flightsV (kp3 votes more)).length ∧ ∀ u ∈ (flightsV (kp3 votes more)).take i, u.slot ≠ slot) (fun i kv => (20, .int .i64 (i : Int)) :: kv) (fun i => sl votedR A119 c119 (flightsV (kp3 votes more)) :: sl votedR A67 c67 (votes ++ more) :: L) (fun i => (flightsV (kp3 votes more)).length - i) (0) rfl (⟨Nat.zero_le _, by simp⟩) (GivesTo.g) (sub_cons rfl (sub_cons rfl (sub_cons rfl (sub_cons rfl (sub_cons rfl (sub_nil)))))) ?_
            rintro i ⟨hil2, hno⟩
            refine SlN.lens (sln (A := A119) (c := c119)) fun hlx => ?_
            simp only [maxEl] at hlx
            refine T_seq ?_
            refine T_region ?_
            refine TL_y rfl rfl (Y_move rfl) ?_
            refine TL_y rfl rfl (Y_move rfl) ?_
            refine TL_y rfl rfl (Y_len rfl) ?_
            refine TL_y rfl rfl (Y_lt rfl rfl) ?_
            refine TL_nil ?_
            refine T_if rfl (fun h123 => ?_) (fun h123 => ?_)
            · refine T_skip ?_
              refine thenS_normal ?_
              refine T_seq ?_
              refine T_block ?_
              obtain ⟨f, hf⟩ : ∃ f, (flightsV (kp3 votes more))[i]? = some f := ⟨_, List.getElem?_eq_getElem (by omega)⟩
              have hfe := hKf.en f (List.mem_of_getElem? hf)
              refine T_addr_n (sln (A := A119) (c := c119)) hf fun bz oz ez => ?_
              subst ez
              refine T_region ?_
              refine TL_y rfl rfl (Y_move rfl) ?_
              refine TL_y rfl rfl (Y_move rfl) ?_
              refine TL_y rfl rfl (Y_index_n (R := votedR) (xs := flightsV (kp3 votes more)) rfl rfl rfl hf) ?_
              refine TL_y rfl rfl (Y_field_addr2 rfl) ?_
              refine TL_y rfl rfl (Y_load_nx (xs := flightsV (kp3 votes more)) (u := f) (v := .int .i64 f.slot) rfl (sln (c := c119)) hf (fun _ ↦ rfl)) ?_
              refine TL_y rfl rfl (Y_move rfl) ?_
              refine TL_y rfl rfl (Y_eq rfl rfl) ?_
              refine TL_nil ?_
              refine T_if rfl (fun h132 => ?_) (fun h132 => ?_)
              · have hen : f.en.noop = true := by rw [hfe, h132]; unfold keptE; rw [hp]; rfl
                refine T_rd [0, 1, 3, 7, 7, 31, 63, 127, 7, 7, 775, 1799, 3847, 8191, 16383, 32767, 65535, 131071, 262143, 524287, 524287, 2097151, 4194303, 8388607, 16777215, 33554431, 67108863, 134217727] (by kernel_rfl) (by decide +kernel) ?_
                refine RD_pair 7 12 (by decide) ?_ ?_
                · refine RD_leaf (sl votedR (some ⟨bz, oz, none⟩) c119 (flightsV (kp3 votes more)) :: []) [0, 1, 3, 7, 7, 31, 63, 127, 7, 7, 775, 1799, 4095, 8191, 16383, 32767, 65535, 131071, 262143, 524287, 524287, 2097151, 4194303, 8388607, 16777215, 33554431, 67108863, 134217727] [] [(0, true), (1, true), (2, true), (3, true), (4, true), (5, true), (6, true), (8, true), (9, true), (10, true), (11, true), (7, false), (12, false), (13, false), (14, true), (15, true), (16, true), (17, true), (18, true), (19, true), (20, true), (21, true), (22, true), (23, true), (24, true), (25, true), (26, true), (27, true)] (by decide +kernel) GivesTo.g ?_
                  refine TF_y rfl rfl (Y_move rfl) ?_
                  refine TF_y rfl rfl (Y_ge rfl rfl) ?_
                  refine TF_name 134 (v' := .bool false) rfl (congrArg Value.bool (decide_eq_false (by omega))) ?_
                  refine TF_y rfl rfl (Y_move rfl) ?_
                  refine TF_gskip rfl rfl rfl rfl rfl ?_
                  refine TF_gskip rfl rfl rfl rfl rfl ?_
                  refine TF_gskip rfl rfl rfl rfl rfl ?_
                  refine TF_gskip rfl rfl rfl rfl rfl ?_
                  refine TF_gskip rfl rfl rfl rfl rfl ?_
                  refine TF_gskip rfl rfl rfl rfl rfl ?_
                  refine TF_gskip rfl rfl rfl rfl rfl ?_
                  refine TF_gskip rfl rfl rfl rfl rfl ?_
                  refine TF_anchor rfl ?_
                  refine TL_gskip rfl rfl rfl rfl ?_
                  refine TF_end GivesTo.g ?_
                  refine TF_anchor rfl ?_
                  refine TL_gskip rfl rfl rfl rfl ?_
                  refine TF_end GivesTo.g ?_
                  refine TF_anchor rfl ?_
                  refine TL_gskip rfl rfl rfl rfl ?_
                  refine TF_end GivesTo.g ?_
                  refine TF_y rfl rfl (Y_pick_f rfl rfl) ?_
                  refine TF_y rfl rfl (Y_move rfl) ?_
                  refine TF_gy rfl rfl rfl rfl (Y_move rfl) ?_
                  refine TF_gy rfl rfl rfl rfl (Y_lt rfl rfl) ?_
                  refine TF_name 150 (v' := .bool true) rfl (congrArg Value.bool (decide_eq_true (by omega))) ?_
                  refine TF_gy rfl rfl rfl rfl (Y_move rfl) ?_
                  refine TF_gy rfl rfl rfl rfl (Y_move rfl) ?_
                  refine TF_gy rfl rfl rfl rfl (Y_move rfl) ?_
                  refine TF_gy rfl rfl rfl rfl (Y_index_n (R := votedR) (xs := flightsV (kp3 votes more)) rfl rfl rfl hf) ?_
                  refine TF_gy rfl rfl rfl rfl (Y_field_addr2 rfl) ?_
                  refine TF_gy rfl rfl rfl rfl (Y_field_addr2 rfl) ?_
                  refine TF_gy rfl rfl rfl rfl (Y_load_nx (xs := flightsV (kp3 votes more)) (u := f) (v := .bool f.en.noop) rfl (sln (c := c119)) hf (fun _ ↦ rfl)) ?_
                  refine TF_name 157 (v' := .bool true) rfl (congrArg Value.bool hen) ?_
                  refine TF_gy rfl rfl rfl rfl (Y_pick_t rfl rfl) ?_
                  refine TF_y rfl rfl (Y_pick_f rfl rfl) ?_
                  refine TF_y rfl rfl (Y_assign rfl) ?_
                  refine TF_nil ?_
                  refine thenS_normal ?_
                  refine T_ret ?_
                  refine inB_ret ?_
                  refine thenS_ret ?_
                  refine thenS_ret ?_
                  refine inB_ret ?_
                  refine thenS_ret ?_
                  exact RetG_1 (.inl rfl) rfl (ResV.tmp rfl) GivesTo.g (⟨rfl, rfl⟩)
                · refine RD_leaf (sl votedR (some ⟨bz, oz, none⟩) c119 (flightsV (kp3 votes more)) :: []) [0, 1, 3, 7, 7, 31, 63, 8063, 7, 7, 775, 1799, 3847, 8191, 16383, 32767, 65535, 131071, 262143, 524287, 524287, 2097151, 4194303, 8388607, 16777215, 33554431, 67108863, 134217727] [] [(0, true), (1, true), (2, true), (3, true), (4, true), (5, true), (6, true), (8, true), (9, true), (10, true), (11, true), (12, false), (7, false), (13, false), (14, true), (15, true), (16, true), (17, true), (18, true), (19, true), (20, true), (21, true), (22, true), (23, true), (24, true), (25, true), (26, true), (27, true)] (by decide +kernel) GivesTo.g ?_
                  refine TF_y rfl rfl (Y_move rfl) ?_
                  refine TF_y rfl rfl (Y_ge rfl rfl) ?_
                  refine TF_name 134 (v' := .bool false) rfl (congrArg Value.bool (decide_eq_false (by omega))) ?_
                  refine TF_y rfl rfl (Y_move rfl) ?_
                  refine TF_gskip rfl rfl rfl rfl rfl ?_
                  refine TF_gskip rfl rfl rfl rfl rfl ?_
                  refine TF_gskip rfl rfl rfl rfl rfl ?_
                  refine TF_gskip rfl rfl rfl rfl rfl ?_
                  refine TF_gskip rfl rfl rfl rfl rfl ?_
                  refine TF_gskip rfl rfl rfl rfl rfl ?_
                  refine TF_gskip rfl rfl rfl rfl rfl ?_
                  refine TF_gskip rfl rfl rfl rfl rfl ?_
                  refine TF_anchor rfl ?_
                  refine TL_gskip rfl rfl rfl rfl ?_
                  refine TF_end GivesTo.g ?_
                  refine TF_anchor rfl ?_
                  refine TL_gskip rfl rfl rfl rfl ?_
                  refine TF_end GivesTo.g ?_
                  refine TF_anchor rfl ?_
                  refine TL_gskip rfl rfl rfl rfl ?_
                  refine TF_end GivesTo.g ?_
                  refine TF_y rfl rfl (Y_pick_f rfl rfl) ?_
                  refine TF_y rfl rfl (Y_move rfl) ?_
                  refine TF_gy rfl rfl rfl rfl (Y_move rfl) ?_
                  refine TF_gy rfl rfl rfl rfl (Y_lt rfl rfl) ?_
                  refine TF_name 150 (v' := .bool true) rfl (congrArg Value.bool (decide_eq_true (by omega))) ?_
                  refine TF_gy rfl rfl rfl rfl (Y_move rfl) ?_
                  refine TF_gy rfl rfl rfl rfl (Y_move rfl) ?_
                  refine TF_gy rfl rfl rfl rfl (Y_move rfl) ?_
                  refine TF_gy rfl rfl rfl rfl (Y_index_n (R := votedR) (xs := flightsV (kp3 votes more)) rfl rfl rfl hf) ?_
                  refine TF_gy rfl rfl rfl rfl (Y_field_addr2 rfl) ?_
                  refine TF_gy rfl rfl rfl rfl (Y_field_addr2 rfl) ?_
                  refine TF_gy rfl rfl rfl rfl (Y_load_nx (xs := flightsV (kp3 votes more)) (u := f) (v := .bool f.en.noop) rfl (sln (c := c119)) hf (fun _ ↦ rfl)) ?_
                  refine TF_name 157 (v' := .bool true) rfl (congrArg Value.bool hen) ?_
                  refine TF_gy rfl rfl rfl rfl (Y_pick_t rfl rfl) ?_
                  refine TF_y rfl rfl (Y_pick_f rfl rfl) ?_
                  refine TF_y rfl rfl (Y_assign rfl) ?_
                  refine TF_nil ?_
                  refine thenS_normal ?_
                  refine T_ret ?_
                  refine inB_ret ?_
                  refine thenS_ret ?_
                  refine thenS_ret ?_
                  refine inB_ret ?_
                  refine thenS_ret ?_
                  exact RetG_1 (.inl rfl) rfl (ResV.tmp rfl) GivesTo.g (⟨rfl, rfl⟩)
              · refine T_skip ?_
                refine inB_normal ?_
                refine thenS_normal ?_
                refine T_region_last ?_
                refine TL_y rfl rfl (Y_move rfl) ?_
                refine TL_y rfl rfl (Y_add rfl rfl (by omega)) ?_
                refine TL_name 125 (v' := .int .i64 ((i + 1 : Nat) : Int)) rfl (rfl) ?_
                refine TL_y rfl rfl (Y_assign rfl) ?_
                refine TL_nil ?_
                refine thenS_normal ?_
                exact ⟨i + 1, ⟨by omega, by rw [takeAt hf]; intro q hq; rcases List.mem_append.1 hq with h | h; (exact hno q h); (rw [List.mem_singleton.1 h]; exact h132)⟩, by omega, holds_to (sub_cons rfl (sub_cons rfl (sub_cons rfl (sub_cons rfl (sub_cons rfl (sub_nil)))))) GivesTo.g⟩
            · refine T_exit ?_
              refine thenS_exit ?_
              refine thenS_exit ?_
              refine inB_hit ?_
              refine thenS_normal ?_
              refine T_region ?_
              refine TL_y rfl rfl (Y_move rfl) ?_
              refine TL_y rfl rfl (Y_lt rfl rfl) ?_
              refine TL_name 161 (v' := .bool true) rfl (congrArg Value.bool (decide_eq_true (by omega))) ?_
              refine TL_y rfl rfl (Y_move rfl) ?_
              refine TL_gskip rfl rfl rfl rfl ?_
              refine TL_gskip rfl rfl rfl rfl ?_
              refine TL_y rfl rfl (Y_pick_t rfl rfl) ?_
              refine TL_y rfl rfl (Y_assign rfl) ?_
              refine TL_nil ?_
              refine T_ret ?_
              exact RetG_1 (.inl rfl) rfl (ResV.tmp rfl) GivesTo.g (⟨rfl, rfl⟩)
          · dsimp only at hp
            rw [List.take_of_length_le (show (votes ++ more).length ≤ i by omega)] at hp
            refine T_region ?_
            refine TL_y rfl rfl (Y_move rfl) ?_
            refine TL_pullk b22 ?_
            refine TL_call rfl rfl (prFlights_spec) ?_
            rintro _ _ ⟨A119, c119, rfl, rfl⟩
            refine TL_freeze_osl ?_
            refine TL_y rfl rfl (Y_assign rfl) ?_
            refine TL_nil ?_
            refine T_seq ?_
            refine T_region ?_
            refine TL_y rfl rfl (Y_assign rfl) ?_
            refine TL_nil ?_
            refine T_block ?_
            refine T_loopK (σ := Nat) [2, 14, 15, 19] (fun i => i ≤ (flightsV (kp3 votes more)).length ∧ ∀ u ∈ (flightsV (kp3 votes more)).take i, u.slot ≠ slot) (fun i kv => (20, .int .i64 (i : Int)) :: kv) (fun i => sl votedR A119 c119 (flightsV (kp3 votes more)) :: sl votedR A67 c67 (votes ++ more) :: L) (fun i => (flightsV (kp3 votes more)).length - i) (0) rfl (⟨Nat.zero_le _, by simp⟩) (GivesTo.g) (sub_cons rfl (sub_cons rfl (sub_cons rfl (sub_cons rfl (sub_cons rfl (sub_nil)))))) ?_
            rintro i ⟨hil2, hno⟩
            refine SlN.lens (sln (A := A119) (c := c119)) fun hlx => ?_
            simp only [maxEl] at hlx
            refine T_seq ?_
            refine T_region ?_
            refine TL_y rfl rfl (Y_move rfl) ?_
            refine TL_y rfl rfl (Y_move rfl) ?_
            refine TL_y rfl rfl (Y_len rfl) ?_
            refine TL_y rfl rfl (Y_lt rfl rfl) ?_
            refine TL_nil ?_
            refine T_if rfl (fun h123 => ?_) (fun h123 => ?_)
            · refine T_skip ?_
              refine thenS_normal ?_
              refine T_seq ?_
              refine T_block ?_
              obtain ⟨f, hf⟩ : ∃ f, (flightsV (kp3 votes more))[i]? = some f := ⟨_, List.getElem?_eq_getElem (by omega)⟩
              have hfe := hKf.en f (List.mem_of_getElem? hf)
              refine T_addr_n (sln (A := A119) (c := c119)) hf fun bz oz ez => ?_
              subst ez
              refine T_region ?_
              refine TL_y rfl rfl (Y_move rfl) ?_
              refine TL_y rfl rfl (Y_move rfl) ?_
              refine TL_y rfl rfl (Y_index_n (R := votedR) (xs := flightsV (kp3 votes more)) rfl rfl rfl hf) ?_
              refine TL_y rfl rfl (Y_field_addr2 rfl) ?_
              refine TL_y rfl rfl (Y_load_nx (xs := flightsV (kp3 votes more)) (u := f) (v := .int .i64 f.slot) rfl (sln (c := c119)) hf (fun _ ↦ rfl)) ?_
              refine TL_y rfl rfl (Y_move rfl) ?_
              refine TL_y rfl rfl (Y_eq rfl rfl) ?_
              refine TL_nil ?_
              refine T_if rfl (fun h132 => ?_) (fun h132 => ?_)
              · have hen : f.en = u.en := (by rw [hfe, h132]; unfold keptE; rw [hp]; rfl)
                refine T_addr_n (sln (A := A67) (c := c67)) hu fun bl ol el => ?_
                subst el
                refine T_rd [0, 1, 3, 7, 7, 31, 63, 127, 7, 7, 775, 1799, 3847, 8191, 16383, 32767, 65535, 131071, 262143, 524287, 524287, 2097151, 4194303, 8388607, 16777215, 33554431, 67108863, 134217727] (by kernel_rfl) (by decide +kernel) ?_
                refine RD_pair 7 12 (by decide) ?_ ?_
                · refine RD_leaf (sl votedR (some ⟨bz, oz, none⟩) c119 (flightsV (kp3 votes more)) :: sl votedR (some ⟨bl, ol, none⟩) c67 (votes ++ more) :: []) [0, 1, 3, 7, 7, 31, 63, 127, 7, 7, 775, 1799, 4095, 8191, 16383, 32767, 65535, 131071, 262143, 524287, 524287, 2097151, 4194303, 8388607, 16777215, 33554431, 67108863, 134217727] [] [(0, true), (1, true), (2, true), (3, true), (4, true), (5, true), (6, true), (8, true), (9, true), (10, true), (11, true), (7, false), (12, false), (13, false), (14, true), (15, true), (16, true), (17, true), (18, true), (19, true), (20, true), (21, true), (22, true), (23, true), (24, true), (25, true), (26, true), (27, true)] (by decide +kernel) GivesTo.g ?_
                  refine TF_y rfl rfl (Y_move rfl) ?_
                  refine TF_y rfl rfl (Y_ge rfl rfl) ?_
                  refine TF_name 134 (v' := .bool true) rfl (congrArg Value.bool (decide_eq_true (by omega))) ?_
                  refine TF_y rfl rfl (Y_move rfl) ?_
                  refine TF_gy rfl rfl rfl rfl (Y_move rfl) ?_
                  refine TF_gy rfl rfl rfl rfl (Y_move rfl) ?_
                  refine TF_gy rfl rfl rfl rfl (Y_index_n (R := votedR) (xs := flightsV (kp3 votes more)) rfl rfl rfl hf) ?_
                  refine TF_gy rfl rfl rfl rfl (Y_field_addr2 rfl) ?_
                  refine TF_gy rfl rfl rfl rfl (Y_move rfl) ?_
                  refine TF_gy rfl rfl rfl rfl (Y_move rfl) ?_
                  refine TF_gy rfl rfl rfl rfl (Y_index_n (R := votedR) (xs := votes ++ more) rfl rfl rfl hu) ?_
                  refine TF_gy rfl rfl rfl rfl (Y_field_addr2 rfl) ?_
                  refine TF_anchor rfl ?_
                  refine TL_grun rfl rfl ?_
                  refine TL_load_nx (xs := flightsV (kp3 votes more)) rfl rfl (sln (c := c119)) hf (fun _ => rfl) ?_
                  intro p140 ok140
                  simp only [List.cons_append, List.nil_append]
                  refine TF_end GivesTo.g ?_
                  refine TF_anchor rfl ?_
                  refine TL_grun rfl rfl ?_
                  refine TL_load_nx (xs := votes ++ more) rfl rfl (sln (c := c67)) hu (fun _ => rfl) ?_
                  intro p145 ok145
                  simp only [List.cons_append, List.nil_append]
                  refine TF_end GivesTo.g ?_
                  refine TF_anchor rfl ?_
                  refine TL_grun rfl rfl ?_
                  refine TL_call rfl rfl (sameEntry_spec f.en u.en (A := p140.1) (c := p140.2) (B := p145.1) (d := p145.2) sln sln) ?_
                  rintro _ _ ⟨rfl, rfl⟩
                  refine TL_name 146 (v' := .bool true) rfl (congrArg Value.bool (decide_eq_true hen)) ?_
                  refine TF_end GivesTo.g ?_
                  refine TF_y rfl rfl (Y_pick_t rfl rfl) ?_
                  refine TF_y rfl rfl (Y_move rfl) ?_
                  refine TF_gskip rfl rfl rfl rfl rfl ?_
                  refine TF_gskip rfl rfl rfl rfl rfl ?_
                  refine TF_gskip rfl rfl rfl rfl rfl ?_
                  refine TF_gskip_u rfl rfl rfl rfl ?_
                  refine TF_gskip_u rfl rfl rfl rfl ?_
                  refine TF_gskip_u rfl rfl rfl rfl ?_
                  refine TF_gskip_u rfl rfl rfl rfl ?_
                  refine TF_gskip_u rfl rfl rfl rfl ?_
                  refine TF_gskip_u rfl rfl rfl rfl ?_
                  refine TF_gskip rfl rfl rfl rfl rfl ?_
                  refine TF_y rfl rfl (Y_pick_t rfl rfl) ?_
                  refine TF_y rfl rfl (Y_assign rfl) ?_
                  refine TF_nil ?_
                  refine thenS_normal ?_
                  refine T_ret ?_
                  refine inB_ret ?_
                  refine thenS_ret ?_
                  refine thenS_ret ?_
                  refine inB_ret ?_
                  refine thenS_ret ?_
                  exact RetG_1 (.inl rfl) rfl (ResV.tmp rfl) GivesTo.g (⟨rfl, rfl⟩)
                · refine RD_leaf (sl votedR (some ⟨bz, oz, none⟩) c119 (flightsV (kp3 votes more)) :: sl votedR (some ⟨bl, ol, none⟩) c67 (votes ++ more) :: []) [0, 1, 3, 7, 7, 31, 63, 8063, 7, 7, 775, 1799, 3847, 8191, 16383, 32767, 65535, 131071, 262143, 524287, 524287, 2097151, 4194303, 8388607, 16777215, 33554431, 67108863, 134217727] [] [(0, true), (1, true), (2, true), (3, true), (4, true), (5, true), (6, true), (8, true), (9, true), (10, true), (11, true), (12, false), (7, false), (13, false), (14, true), (15, true), (16, true), (17, true), (18, true), (19, true), (20, true), (21, true), (22, true), (23, true), (24, true), (25, true), (26, true), (27, true)] (by decide +kernel) GivesTo.g ?_
                  refine TF_y rfl rfl (Y_move rfl) ?_
                  refine TF_y rfl rfl (Y_ge rfl rfl) ?_
                  refine TF_name 134 (v' := .bool true) rfl (congrArg Value.bool (decide_eq_true (by omega))) ?_
                  refine TF_y rfl rfl (Y_move rfl) ?_
                  refine TF_gy rfl rfl rfl rfl (Y_move rfl) ?_
                  refine TF_gy rfl rfl rfl rfl (Y_move rfl) ?_
                  refine TF_gy rfl rfl rfl rfl (Y_index_n (R := votedR) (xs := flightsV (kp3 votes more)) rfl rfl rfl hf) ?_
                  refine TF_gy rfl rfl rfl rfl (Y_field_addr2 rfl) ?_
                  refine TF_gy rfl rfl rfl rfl (Y_move rfl) ?_
                  refine TF_gy rfl rfl rfl rfl (Y_move rfl) ?_
                  refine TF_gy rfl rfl rfl rfl (Y_index_n (R := votedR) (xs := votes ++ more) rfl rfl rfl hu) ?_
                  refine TF_gy rfl rfl rfl rfl (Y_field_addr2 rfl) ?_
                  refine TF_anchor rfl ?_
                  refine TL_grun rfl rfl ?_
                  refine TL_load_nx (xs := votes ++ more) rfl rfl (sln (c := c67)) hu (fun _ => rfl) ?_
                  intro p145 ok145
                  simp only [List.cons_append, List.nil_append]
                  refine TF_end GivesTo.g ?_
                  refine TF_anchor rfl ?_
                  refine TL_grun rfl rfl ?_
                  refine TL_load_nx (xs := flightsV (kp3 votes more)) rfl rfl (sln (c := c119)) hf (fun _ => rfl) ?_
                  intro p140 ok140
                  simp only [List.cons_append, List.nil_append]
                  refine TF_end GivesTo.g ?_
                  refine TF_anchor rfl ?_
                  refine TL_grun rfl rfl ?_
                  refine TL_call rfl rfl (sameEntry_spec f.en u.en (A := p140.1) (c := p140.2) (B := p145.1) (d := p145.2) sln sln) ?_
                  rintro _ _ ⟨rfl, rfl⟩
                  refine TL_name 146 (v' := .bool true) rfl (congrArg Value.bool (decide_eq_true hen)) ?_
                  refine TF_end GivesTo.g ?_
                  refine TF_y rfl rfl (Y_pick_t rfl rfl) ?_
                  refine TF_y rfl rfl (Y_move rfl) ?_
                  refine TF_gskip rfl rfl rfl rfl rfl ?_
                  refine TF_gskip rfl rfl rfl rfl rfl ?_
                  refine TF_gskip rfl rfl rfl rfl rfl ?_
                  refine TF_gskip_u rfl rfl rfl rfl ?_
                  refine TF_gskip_u rfl rfl rfl rfl ?_
                  refine TF_gskip_u rfl rfl rfl rfl ?_
                  refine TF_gskip_u rfl rfl rfl rfl ?_
                  refine TF_gskip_u rfl rfl rfl rfl ?_
                  refine TF_gskip_u rfl rfl rfl rfl ?_
                  refine TF_gskip rfl rfl rfl rfl rfl ?_
                  refine TF_y rfl rfl (Y_pick_t rfl rfl) ?_
                  refine TF_y rfl rfl (Y_assign rfl) ?_
                  refine TF_nil ?_
                  refine thenS_normal ?_
                  refine T_ret ?_
                  refine inB_ret ?_
                  refine thenS_ret ?_
                  refine thenS_ret ?_
                  refine inB_ret ?_
                  refine thenS_ret ?_
                  exact RetG_1 (.inl rfl) rfl (ResV.tmp rfl) GivesTo.g (⟨rfl, rfl⟩)
              · refine T_skip ?_
                refine inB_normal ?_
                refine thenS_normal ?_
                refine T_region_last ?_
                refine TL_y rfl rfl (Y_move rfl) ?_
                refine TL_y rfl rfl (Y_add rfl rfl (by omega)) ?_
                refine TL_name 125 (v' := .int .i64 ((i + 1 : Nat) : Int)) rfl (rfl) ?_
                refine TL_y rfl rfl (Y_assign rfl) ?_
                refine TL_nil ?_
                refine thenS_normal ?_
                exact ⟨i + 1, ⟨by omega, by rw [takeAt hf]; intro q hq; rcases List.mem_append.1 hq with h | h; (exact hno q h); (rw [List.mem_singleton.1 h]; exact h132)⟩, by omega, holds_to (sub_cons rfl (sub_cons rfl (sub_cons rfl (sub_cons rfl (sub_cons rfl (sub_nil)))))) GivesTo.g⟩
            · refine T_exit ?_
              refine thenS_exit ?_
              refine thenS_exit ?_
              refine inB_hit ?_
              refine thenS_normal ?_
              refine T_region ?_
              refine TL_y rfl rfl (Y_move rfl) ?_
              refine TL_y rfl rfl (Y_lt rfl rfl) ?_
              refine TL_name 161 (v' := .bool false) rfl (congrArg Value.bool (decide_eq_false (by omega))) ?_
              refine TL_y rfl rfl (Y_move rfl) ?_
              refine TL_grun rfl rfl ?_
              refine TL_y rfl rfl (Y_move rfl) ?_
              refine TL_grun rfl rfl ?_
              refine TL_y rfl rfl (Y_lt rfl rfl) ?_
              refine TL_name 164 (v' := .bool true) rfl (congrArg Value.bool (decide_eq_true (by exfalso; rw [List.take_of_length_le (show (flightsV (kp3 votes more)).length ≤ i by omega)] at hno; have hu1 := pickV_some hp; have hu2 := hin u hu1.1; obtain ⟨f, hf, hs⟩ := hKf.all u.slot hu2.1 hu2.2; exact hno f hf (hs.trans hu1.2.1)))) ?_
              refine TL_y rfl rfl (Y_pick_f rfl rfl) ?_
              refine TL_y rfl rfl (Y_assign rfl) ?_
              refine TL_nil ?_
              refine T_ret ?_
              exact RetG_1 (.inl rfl) rfl (ResV.tmp rfl) GivesTo.g (⟨rfl, rfl⟩)
    · refine RD_leaf (pr b22 kp1 :: cells b9 [.bool true, .string ⟨#[]⟩, .string ⟨#[]⟩, .int .i64 0, .slice none 0 0] 27 :: []) [0, 33, 0, 0, 47, 0, 63] [] [(0, true), (2, true), (3, true), (5, false), (1, false), (4, true), (6, false)] (by decide +kernel) GivesTo.g ?_
      refine TF_y rfl rfl (Y_move rfl) ?_
      refine TF_y rfl rfl (Y_load_agg rfl rfl) ?_
      refine TF_y rfl rfl (Y_move rfl) ?_
      refine TF_anchor rfl ?_
      refine TL_alloc rfl rfl ?_
      intro b13
      refine TF_end GivesTo.g ?_
      refine TF_anchor rfl ?_
      refine TL_pullk b22 ?_
      refine TL_call rfl rfl (prBallot_spec) ?_
      rintro _ _ ⟨rfl, rfl⟩
      refine TF_end GivesTo.g ?_
      refine TF_y rfl rfl (Y_build rfl rfl) ?_
      refine TF_anchor rfl ?_
      refine TL_store rfl rfl rfl rfl rfl rfl ?_
      refine TF_end GivesTo.g ?_
      refine TF_nil ?_
      refine thenS_normal ?_
      refine T_region ?_
      refine TL_y rfl rfl (Y_move rfl) ?_
      refine TL_y rfl rfl (Y_load_agg rfl rfl) ?_
      refine TL_pullk b22 ?_
      refine TL_call rfl rfl (prOn_spec (p := kp1) (kpA votes) ⟨(none, 0), (A, c), (none, 0), (none, 0)⟩ (kpA_ok votes) ⟨slnil, slk, slnil, slnil⟩ (show cSeal noopE.order + cVoteds votes + 10 * 0 + 0 + 200 ≤ 140737488355328 from by have : cSeal noopE.order = 60 := rfl; omega)) ?_
      rintro _ _ ⟨A56, c56, B56, d56, rfl, rfl⟩
      refine TL_nil ?_
      refine T_region ?_
      refine TL_y rfl rfl (Y_move rfl) ?_
      refine TL_y rfl rfl (Y_load_agg rfl rfl) ?_
      refine TL_pullk b22 ?_
      refine TL_call rfl rfl (prOn_spec (p := (onP kp1 (kpA votes)).1) (kpB more) ⟨(none, 0), (A2, c2), (none, 0), (none, 0)⟩ (kpB_ok more) ⟨slnil, slk, slnil, slnil⟩ (show cSeal noopE.order + cVoteds more + 10 * 0 + 0 + 200 ≤ 140737488355328 from by have : cSeal noopE.order = 60 := rfl; omega)) ?_
      rintro _ _ ⟨A59, c59, B59, d59, rfl, rfl⟩
      rw [show (onP (onP kp1 (kpA votes)).1 (kpB more)).1 = kp3 votes more from rfl]
      refine TL_nil ?_
      refine T_seq ?_
      refine T_region ?_
      refine TL_y rfl rfl (Y_move rfl) ?_
      refine TL_pullk b22 ?_
      refine TL_call rfl rfl (prPhase_spec) ?_
      rintro _ _ ⟨rfl, rfl⟩
      refine TL_y rfl rfl (Y_ne rfl rfl) ?_
      refine TL_nil ?_
      refine T_if rfl (fun h62 => ?_) (fun h62 => ?_)
      · refine T_region ?_
        refine TL_y rfl rfl (Y_assign rfl) ?_
        refine TL_nil ?_
        refine T_ret ?_
        refine thenS_ret ?_
        exact RetG_1 (.inl rfl) rfl (ResV.tmp rfl) GivesTo.g (⟨rfl, rfl⟩)
      · refine T_skip ?_
        refine thenS_normal ?_
        obtain ⟨q, k, hqF, hqf, hin, hP⟩ := kp_lead (Classical.not_not.1 h62)
        have hKf := kf_of hqF hqf (votes ++ more) k
        rw [← hP] at hKf
        refine T_region ?_
        refine TL_build_slice rfl rfl rfl rfl rfl rfl ?_
        intro b63
        refine TL_osl (k := 0) votedR [] (Knows.const fun M => rfl) rfl (by simp) ?_
        refine TL_name 63 (v' := .slice (some ⟨b63, 0, none⟩) ([] : List VotedD).length 0) rfl rfl ?_
        refine TL_y rfl rfl (Y_move rfl) ?_
        refine TL_append rfl rfl rfl rfl rfl slk (by simp only [List.length_nil]; omega) ?_
        intro A65 c65
        rw [List.nil_append]
        refine TL_y rfl rfl (Y_move rfl) ?_
        refine TL_append rfl rfl rfl rfl rfl slk (by omega) ?_
        intro A67 c67
        refine TL_freeze_osl ?_
        refine TL_y rfl rfl (Y_assign rfl) ?_
        refine TL_nil ?_
        refine T_region ?_
        refine TL_y rfl rfl (Y_assign rfl) ?_
        refine TL_nil ?_
        refine T_seq ?_
        refine T_region ?_
        refine TL_y rfl rfl (Y_assign rfl) ?_
        refine TL_nil ?_
        refine T_block ?_
        refine T_loopK (σ := RpSt) [2, 7, 14] (fun g => g.i ≤ (votes ++ more).length ∧ RpI (votes ++ more) slot g) (fun g kv => (16, .int .i64 (g.i : Int)) :: (15, .int .i64 g.r) :: kv) (fun g => sl votedR A67 c67 (votes ++ more) :: pr b22 (kp3 votes more) :: L) (fun g => (votes ++ more).length - g.i) (⟨0, -1⟩) rfl (⟨Nat.zero_le _, .inl ⟨rfl, rfl⟩⟩) (GivesTo.g) (sub_cons rfl (sub_cons rfl (sub_cons rfl (sub_cons rfl (sub_cons rfl (sub_nil)))))) ?_
        rintro ⟨i, r⟩ ⟨hil, hri⟩
        dsimp only at hil ⊢
        have hlW : (votes ++ more).length = votes.length + more.length := List.length_append
        refine T_seq ?_
        refine T_region ?_
        refine TL_y rfl rfl (Y_move rfl) ?_
        refine TL_y rfl rfl (Y_move rfl) ?_
        refine TL_y rfl rfl (Y_len rfl) ?_
        refine TL_y rfl rfl (Y_lt rfl rfl) ?_
        refine TL_nil ?_
        refine T_if rfl (fun h71 => ?_) (fun h71 => ?_)
        · refine T_skip ?_
          refine thenS_normal ?_
          refine T_seq ?_
          refine T_block ?_
          refine T_seq ?_
          rcases hri with ⟨rfl, hp⟩ | ⟨j, u, rfl, hu, hp⟩
          · obtain ⟨v, hv⟩ : ∃ v, (votes ++ more)[i]? = some v := ⟨_, List.getElem?_eq_getElem (by omega)⟩
            have hnx := pickV_next (slot := slot) hv
            refine T_addr_n (sln (A := A67) (c := c67)) hv fun bl ol el => ?_
            subst el
            dsimp only at hp
            refine T_region ?_
            refine TL_y rfl rfl (Y_move rfl) ?_
            refine TL_y rfl rfl (Y_move rfl) ?_
            refine TL_y rfl rfl (Y_index_n (R := votedR) (xs := votes ++ more) rfl rfl rfl hv) ?_
            refine TL_y rfl rfl (Y_field_addr2 rfl) ?_
            refine TL_y rfl rfl (Y_load_nx (xs := votes ++ more) (u := v) (v := .int .i64 v.slot) rfl (sln (c := c67)) hv (fun _ ↦ rfl)) ?_
            refine TL_y rfl rfl (Y_move rfl) ?_
            refine TL_y rfl rfl (Y_ne rfl rfl) ?_
            refine TL_nil ?_
            refine T_if rfl (fun h80 => ?_) (fun h80 => ?_)
            · refine T_exit ?_
              refine thenS_exit ?_
              refine inB_hit ?_
              refine thenS_normal ?_
              refine T_region_last ?_
              refine TL_y rfl rfl (Y_move rfl) ?_
              refine TL_y rfl rfl (Y_add rfl rfl (by omega)) ?_
              refine TL_name 73 (v' := .int .i64 ((i + 1 : Nat) : Int)) rfl (rfl) ?_
              refine TL_y rfl rfl (Y_assign rfl) ?_
              refine TL_nil ?_
              refine thenS_normal ?_
              exact ⟨⟨i + 1, -1⟩, ⟨by simp only; omega, .inl ⟨rfl, by rw [hnx, better_no h80, hp]⟩⟩, by simp only; omega, holds_to (sub_cons rfl (sub_cons rfl (sub_cons rfl (sub_cons rfl (sub_cons rfl (sub_nil)))))) GivesTo.g⟩
            · refine T_skip ?_
              refine thenS_normal ?_
              refine T_region ?_
              refine TL_y rfl rfl (Y_move rfl) ?_
              refine TL_y rfl rfl (Y_move rfl) ?_
              refine TL_y rfl rfl (Y_index_n (R := votedR) (xs := votes ++ more) rfl rfl rfl hv) ?_
              refine TL_y rfl rfl (Y_field_addr2 rfl) ?_
              refine TL_y rfl rfl (Y_load_nxa (xs := votes ++ more) (u := v) (vs := [.int .i64 v.bal.1, .int .i64 v.bal.2]) rfl (sln (c := c67)) hv (fun _ ↦ rfl)) ?_
              refine TL_y rfl rfl (Y_build rfl rfl) ?_
              refine TL_alloc rfl rfl ?_
              intro b17
              refine TL_alloc rfl rfl ?_
              intro b18
              refine TL_store rfl rfl rfl rfl rfl rfl ?_
              refine TL_store rfl rfl rfl rfl rfl rfl ?_
              refine TL_nil ?_
              refine T_seq ?_
              refine T_region ?_
              refine TL_y rfl rfl (Y_move rfl) ?_
              refine TL_y rfl rfl (Y_ge rfl rfl) ?_
              refine TL_name 88 (v' := .bool false) rfl (congrArg Value.bool (decide_eq_false (by omega))) ?_
              refine TL_nil ?_
              refine T_cond_false rfl ?_
              refine T_skip ?_
              refine thenS_normal ?_
              refine T_region ?_
              refine TL_y rfl rfl (Y_move rfl) ?_
              refine TL_y rfl rfl (Y_lt rfl rfl) ?_
              refine TL_name 95 (v' := .bool true) rfl (congrArg Value.bool (decide_eq_true (by omega))) ?_
              refine TL_y rfl rfl (Y_move rfl) ?_
              refine TL_gskip rfl rfl rfl rfl ?_
              refine TL_gskip rfl rfl rfl rfl ?_
              refine TL_gskip rfl rfl rfl rfl ?_
              refine TL_gskip rfl rfl rfl rfl ?_
              refine TL_gskip rfl rfl rfl rfl ?_
              refine TL_y rfl rfl (Y_pick_t rfl rfl) ?_
              refine TL_y rfl rfl (Y_move rfl) ?_
              refine TL_gskip rfl rfl rfl rfl ?_
              refine TL_gskip rfl rfl rfl rfl ?_
              refine TL_gskip rfl rfl rfl rfl ?_
              refine TL_gskip rfl rfl rfl rfl ?_
              refine TL_gskip rfl rfl rfl rfl ?_
              refine TL_gskip rfl rfl rfl rfl ?_
              refine TL_gskip_u rfl rfl rfl ?_
              refine TL_gskip_u rfl rfl rfl ?_
              refine TL_gskip_u rfl rfl rfl ?_
              refine TL_gskip_u rfl rfl rfl ?_
              refine TL_gskip_u rfl rfl rfl ?_
              refine TL_gskip rfl rfl rfl rfl ?_
              refine TL_y rfl rfl (Y_pick_t rfl rfl) ?_
              refine TL_nil ?_
              refine T_cond_true rfl ?_
              refine T_region_last ?_
              refine TL_y rfl rfl (Y_move rfl) ?_
              refine TL_y rfl rfl (Y_assign rfl) ?_
              refine TL_nil ?_
              refine inB_normal ?_
              refine thenS_normal ?_
              refine T_region_last ?_
              refine TL_y rfl rfl (Y_move rfl) ?_
              refine TL_y rfl rfl (Y_add rfl rfl (by omega)) ?_
              refine TL_name 73 (v' := .int .i64 ((i + 1 : Nat) : Int)) rfl (rfl) ?_
              refine TL_y rfl rfl (Y_assign rfl) ?_
              refine TL_nil ?_
              refine thenS_normal ?_
              exact ⟨⟨i + 1, (i : Int)⟩, ⟨by simp only; omega, .inr ⟨i, v, rfl, hv, by rw [hnx, better_first (Classical.not_not.1 h80) (by rw [hp]; rfl)]⟩⟩, by simp only; omega, holds_to (sub_cons rfl (sub_cons rfl (sub_cons rfl (sub_cons rfl (sub_cons rfl (sub_nil)))))) GivesTo.g⟩
          · obtain ⟨v, hv⟩ : ∃ v, (votes ++ more)[i]? = some v := ⟨_, List.getElem?_eq_getElem (by omega)⟩
            have hnx := pickV_next (slot := slot) hv
            refine T_addr_n (sln (A := A67) (c := c67)) hv fun bl ol el => ?_
            subst el
            dsimp only at hp
            refine T_region ?_
            refine TL_y rfl rfl (Y_move rfl) ?_
            refine TL_y rfl rfl (Y_move rfl) ?_
            refine TL_y rfl rfl (Y_index_n (R := votedR) (xs := votes ++ more) rfl rfl rfl hv) ?_
            refine TL_y rfl rfl (Y_field_addr2 rfl) ?_
            refine TL_y rfl rfl (Y_load_nx (xs := votes ++ more) (u := v) (v := .int .i64 v.slot) rfl (sln (c := c67)) hv (fun _ ↦ rfl)) ?_
            refine TL_y rfl rfl (Y_move rfl) ?_
            refine TL_y rfl rfl (Y_ne rfl rfl) ?_
            refine TL_nil ?_
            refine T_if rfl (fun h80 => ?_) (fun h80 => ?_)
            · refine T_exit ?_
              refine thenS_exit ?_
              refine inB_hit ?_
              refine thenS_normal ?_
              refine T_region_last ?_
              refine TL_y rfl rfl (Y_move rfl) ?_
              refine TL_y rfl rfl (Y_add rfl rfl (by omega)) ?_
              refine TL_name 73 (v' := .int .i64 ((i + 1 : Nat) : Int)) rfl (rfl) ?_
              refine TL_y rfl rfl (Y_assign rfl) ?_
              refine TL_nil ?_
              refine thenS_normal ?_
              exact ⟨⟨i + 1, (j : Int)⟩, ⟨by simp only; omega, .inr ⟨j, u, rfl, hu, by rw [hnx, better_no h80, hp]⟩⟩, by simp only; omega, holds_to (sub_cons rfl (sub_cons rfl (sub_cons rfl (sub_cons rfl (sub_cons rfl (sub_nil)))))) GivesTo.g⟩
            · refine T_skip ?_
              refine thenS_normal ?_
              refine T_region ?_
              refine TL_y rfl rfl (Y_move rfl) ?_
              refine TL_y rfl rfl (Y_move rfl) ?_
              refine TL_y rfl rfl (Y_index_n (R := votedR) (xs := votes ++ more) rfl rfl rfl hv) ?_
              refine TL_y rfl rfl (Y_field_addr2 rfl) ?_
              refine TL_y rfl rfl (Y_load_nxa (xs := votes ++ more) (u := v) (vs := [.int .i64 v.bal.1, .int .i64 v.bal.2]) rfl (sln (c := c67)) hv (fun _ ↦ rfl)) ?_
              refine TL_y rfl rfl (Y_build rfl rfl) ?_
              refine TL_alloc rfl rfl ?_
              intro b17
              refine TL_alloc rfl rfl ?_
              intro b18
              refine TL_store rfl rfl rfl rfl rfl rfl ?_
              refine TL_store rfl rfl rfl rfl rfl rfl ?_
              refine TL_nil ?_
              refine T_seq ?_
              refine T_region ?_
              refine TL_y rfl rfl (Y_move rfl) ?_
              refine TL_y rfl rfl (Y_ge rfl rfl) ?_
              refine TL_name 88 (v' := .bool true) rfl (congrArg Value.bool (decide_eq_true (by omega))) ?_
              refine TL_nil ?_
              refine T_cond_true rfl ?_
              refine T_region_last ?_
              refine TL_y rfl rfl (Y_move rfl) ?_
              refine TL_y rfl rfl (Y_move rfl) ?_
              refine TL_y rfl rfl (Y_index_n (R := votedR) (xs := votes ++ more) rfl rfl rfl hu) ?_
              refine TL_y rfl rfl (Y_field_addr2 rfl) ?_
              refine TL_y rfl rfl (Y_load_nxa (xs := votes ++ more) (u := u) (vs := [.int .i64 u.bal.1, .int .i64 u.bal.2]) rfl (sln (c := c67)) hu (fun _ ↦ rfl)) ?_
              refine TL_store rfl rfl rfl rfl rfl rfl ?_
              refine TL_nil ?_
              refine thenS_normal ?_
              refine T_region ?_
              refine TL_y rfl rfl (Y_move rfl) ?_
              refine TL_y rfl rfl (Y_lt rfl rfl) ?_
              refine TL_name 95 (v' := .bool false) rfl (congrArg Value.bool (decide_eq_false (by omega))) ?_
              refine TL_y rfl rfl (Y_move rfl) ?_
              refine TL_both 20 116 ((0 < cmpB v.bal u.bal)) ?_ ?_
              · refine TL_grun rfl rfl ?_
                refine TL_y rfl rfl (Y_field_addr rfl) ?_
                refine TL_grun rfl rfl ?_
                refine TL_y rfl rfl (Y_load rfl rfl) ?_
                refine TL_grun rfl rfl ?_
                refine TL_y rfl rfl (Y_field_addr rfl) ?_
                refine TL_grun rfl rfl ?_
                refine TL_y rfl rfl (Y_load rfl rfl) ?_
                refine TL_grun rfl rfl ?_
                refine TL_y rfl rfl (Y_gt rfl rfl) ?_
                refine TL_y rfl rfl (Y_pick_f rfl rfl) ?_
                refine TL_y rfl rfl (Y_move rfl) ?_
                refine TL_splitd 103 rfl (fun h103 => ?_) (fun h103 => ?_)
                · refine TL_gskip rfl rfl rfl rfl ?_
                  refine TL_gskip rfl rfl rfl rfl ?_
                  refine TL_gskip rfl rfl rfl rfl ?_
                  refine TL_gskip rfl rfl rfl rfl ?_
                  refine TL_gskip rfl rfl rfl rfl ?_
                  refine TL_gskip rfl rfl rfl rfl ?_
                  refine TL_gskip_u rfl rfl rfl ?_
                  refine TL_gskip_u rfl rfl rfl ?_
                  refine TL_gskip_u rfl rfl rfl ?_
                  refine TL_gskip_u rfl rfl rfl ?_
                  refine TL_gskip_u rfl rfl rfl ?_
                  refine TL_gskip rfl rfl rfl rfl ?_
                  refine TL_y rfl rfl (Y_pick_t rfl rfl) ?_
                  refine TL_chain_end rfl ?_ (by repeat (first | exact sub_refl | refine sub_ext rfl ?_)) GivesTo.g
                  exact congrArg Value.bool (decide_eq_true (by rw [cmp_gtB]; unfold ltB; omega)).symm
                · refine TL_grun rfl rfl ?_
                  refine TL_y rfl rfl (Y_field_addr rfl) ?_
                  refine TL_grun rfl rfl ?_
                  refine TL_y rfl rfl (Y_load rfl rfl) ?_
                  refine TL_grun rfl rfl ?_
                  refine TL_y rfl rfl (Y_field_addr rfl) ?_
                  refine TL_grun rfl rfl ?_
                  refine TL_y rfl rfl (Y_load rfl rfl) ?_
                  refine TL_grun rfl rfl ?_
                  refine TL_y rfl rfl (Y_eq rfl rfl) ?_
                  refine TL_grun rfl rfl ?_
                  refine TL_y rfl rfl (Y_move rfl) ?_
                  refine TL_splitd 109 rfl (fun h109 => ?_) (fun h109 => ?_)
                  · refine TL_grun rfl rfl ?_
                    refine TL_y rfl rfl (Y_field_addr rfl) ?_
                    refine TL_grun rfl rfl ?_
                    refine TL_y rfl rfl (Y_load rfl rfl) ?_
                    refine TL_grun rfl rfl ?_
                    refine TL_y rfl rfl (Y_field_addr rfl) ?_
                    refine TL_grun rfl rfl ?_
                    refine TL_y rfl rfl (Y_load rfl rfl) ?_
                    refine TL_grun rfl rfl ?_
                    refine TL_y rfl rfl (Y_gt rfl rfl) ?_
                    refine TL_grun rfl rfl ?_
                    refine TL_y rfl rfl (Y_pick_t rfl rfl) ?_
                    refine TL_y rfl rfl (Y_pick_f rfl rfl) ?_
                    refine TL_chain_end rfl ?_ (by repeat (first | exact sub_refl | refine sub_ext rfl ?_)) GivesTo.g
                    exact congrArg Value.bool (decide_eq_decide.2 (by rw [cmp_gtB]; unfold ltB; omega))
                  · refine TL_gskip rfl rfl rfl rfl ?_
                    refine TL_gskip rfl rfl rfl rfl ?_
                    refine TL_gskip rfl rfl rfl rfl ?_
                    refine TL_gskip rfl rfl rfl rfl ?_
                    refine TL_gskip rfl rfl rfl rfl ?_
                    refine TL_grun rfl rfl ?_
                    refine TL_y rfl rfl (Y_pick_f rfl rfl) ?_
                    refine TL_y rfl rfl (Y_pick_f rfl rfl) ?_
                    refine TL_chain_end rfl ?_ (by repeat (first | exact sub_refl | refine sub_ext rfl ?_)) GivesTo.g
                    exact congrArg Value.bool (decide_eq_false (by rw [cmp_gtB]; unfold ltB; omega)).symm
              refine TL_nil ?_
              refine T_if rfl (fun h116 => ?_) (fun h116 => ?_)
              · refine T_region_last ?_
                refine TL_y rfl rfl (Y_move rfl) ?_
                refine TL_y rfl rfl (Y_assign rfl) ?_
                refine TL_nil ?_
                refine inB_normal ?_
                refine thenS_normal ?_
                refine T_region_last ?_
                refine TL_y rfl rfl (Y_move rfl) ?_
                refine TL_y rfl rfl (Y_add rfl rfl (by omega)) ?_
                refine TL_name 73 (v' := .int .i64 ((i + 1 : Nat) : Int)) rfl (rfl) ?_
                refine TL_y rfl rfl (Y_assign rfl) ?_
                refine TL_nil ?_
                refine thenS_normal ?_
                exact ⟨⟨i + 1, (i : Int)⟩, ⟨by simp only; omega, .inr ⟨i, v, rfl, hv, by rw [hnx, better_more (Classical.not_not.1 h80) (by rw [hp]; rfl) (by rw [hp]; exact h116)]⟩⟩, by simp only; omega, holds_to (sub_cons rfl (sub_cons rfl (sub_cons rfl (sub_cons rfl (sub_cons rfl (sub_nil)))))) GivesTo.g⟩
              · refine T_skip ?_
                refine inB_normal ?_
                refine thenS_normal ?_
                refine T_region_last ?_
                refine TL_y rfl rfl (Y_move rfl) ?_
                refine TL_y rfl rfl (Y_add rfl rfl (by omega)) ?_
                refine TL_name 73 (v' := .int .i64 ((i + 1 : Nat) : Int)) rfl (rfl) ?_
                refine TL_y rfl rfl (Y_assign rfl) ?_
                refine TL_nil ?_
                refine thenS_normal ?_
                exact ⟨⟨i + 1, (j : Int)⟩, ⟨by simp only; omega, .inr ⟨j, u, rfl, hu, by rw [hnx, better_less (Classical.not_not.1 h80) (by rw [hp]; rfl) (by rw [hp]; exact h116), hp]⟩⟩, by simp only; omega, holds_to (sub_cons rfl (sub_cons rfl (sub_cons rfl (sub_cons rfl (sub_cons rfl (sub_nil)))))) GivesTo.g⟩
        · refine T_exit ?_
          refine thenS_exit ?_
          refine thenS_exit ?_
          refine inB_hit ?_
          refine thenS_normal ?_
          rcases hri with ⟨rfl, hp⟩ | ⟨j, u, rfl, hu, hp⟩
          · dsimp only at hp
            rw [List.take_of_length_le (show (votes ++ more).length ≤ i by omega)] at hp
            refine T_region ?_
            refine TL_y rfl rfl (Y_move rfl) ?_
            refine TL_pullk b22 ?_
            refine TL_call rfl rfl (prFlights_spec) ?_
            rintro _ _ ⟨A119, c119, rfl, rfl⟩
            refine TL_freeze_osl ?_
            refine TL_y rfl rfl (Y_assign rfl) ?_
            refine TL_nil ?_
            refine T_seq ?_
            refine T_region ?_
            refine TL_y rfl rfl (Y_assign rfl) ?_
            refine TL_nil ?_
            refine T_block ?_
            refine T_loopK (σ := Nat) [2, 14, 15, 19] (fun i => i ≤ (flightsV (kp3 votes more)).length ∧ ∀ u ∈ (flightsV (kp3 votes more)).take i, u.slot ≠ slot) (fun i kv => (20, .int .i64 (i : Int)) :: kv) (fun i => sl votedR A119 c119 (flightsV (kp3 votes more)) :: sl votedR A67 c67 (votes ++ more) :: L) (fun i => (flightsV (kp3 votes more)).length - i) (0) rfl (⟨Nat.zero_le _, by simp⟩) (GivesTo.g) (sub_cons rfl (sub_cons rfl (sub_cons rfl (sub_cons rfl (sub_cons rfl (sub_nil)))))) ?_
            rintro i ⟨hil2, hno⟩
            refine SlN.lens (sln (A := A119) (c := c119)) fun hlx => ?_
            simp only [maxEl] at hlx
            refine T_seq ?_
            refine T_region ?_
            refine TL_y rfl rfl (Y_move rfl) ?_
            refine TL_y rfl rfl (Y_move rfl) ?_
            refine TL_y rfl rfl (Y_len rfl) ?_
            refine TL_y rfl rfl (Y_lt rfl rfl) ?_
            refine TL_nil ?_
            refine T_if rfl (fun h123 => ?_) (fun h123 => ?_)
            · refine T_skip ?_
              refine thenS_normal ?_
              refine T_seq ?_
              refine T_block ?_
              obtain ⟨f, hf⟩ : ∃ f, (flightsV (kp3 votes more))[i]? = some f := ⟨_, List.getElem?_eq_getElem (by omega)⟩
              have hfe := hKf.en f (List.mem_of_getElem? hf)
              refine T_addr_n (sln (A := A119) (c := c119)) hf fun bz oz ez => ?_
              subst ez
              refine T_region ?_
              refine TL_y rfl rfl (Y_move rfl) ?_
              refine TL_y rfl rfl (Y_move rfl) ?_
              refine TL_y rfl rfl (Y_index_n (R := votedR) (xs := flightsV (kp3 votes more)) rfl rfl rfl hf) ?_
              refine TL_y rfl rfl (Y_field_addr2 rfl) ?_
              refine TL_y rfl rfl (Y_load_nx (xs := flightsV (kp3 votes more)) (u := f) (v := .int .i64 f.slot) rfl (sln (c := c119)) hf (fun _ ↦ rfl)) ?_
              refine TL_y rfl rfl (Y_move rfl) ?_
              refine TL_y rfl rfl (Y_eq rfl rfl) ?_
              refine TL_nil ?_
              refine T_if rfl (fun h132 => ?_) (fun h132 => ?_)
              · have hen : f.en.noop = true := by rw [hfe, h132]; unfold keptE; rw [hp]; rfl
                refine T_rd [0, 1, 3, 7, 7, 31, 63, 127, 7, 7, 775, 1799, 3847, 8191, 16383, 32767, 65535, 131071, 262143, 524287, 524287, 2097151, 4194303, 8388607, 16777215, 33554431, 67108863, 134217727] (by kernel_rfl) (by decide +kernel) ?_
                refine RD_pair 7 12 (by decide) ?_ ?_
                · refine RD_leaf (sl votedR (some ⟨bz, oz, none⟩) c119 (flightsV (kp3 votes more)) :: []) [0, 1, 3, 7, 7, 31, 63, 127, 7, 7, 775, 1799, 4095, 8191, 16383, 32767, 65535, 131071, 262143, 524287, 524287, 2097151, 4194303, 8388607, 16777215, 33554431, 67108863, 134217727] [] [(0, true), (1, true), (2, true), (3, true), (4, true), (5, true), (6, true), (8, true), (9, true), (10, true), (11, true), (7, false), (12, false), (13, false), (14, true), (15, true), (16, true), (17, true), (18, true), (19, true), (20, true), (21, true), (22, true), (23, true), (24, true), (25, true), (26, true), (27, true)] (by decide +kernel) GivesTo.g ?_
                  refine TF_y rfl rfl (Y_move rfl) ?_
                  refine TF_y rfl rfl (Y_ge rfl rfl) ?_
                  refine TF_name 134 (v' := .bool false) rfl (congrArg Value.bool (decide_eq_false (by omega))) ?_
                  refine TF_y rfl rfl (Y_move rfl) ?_
                  refine TF_gskip rfl rfl rfl rfl rfl ?_
                  refine TF_gskip rfl rfl rfl rfl rfl ?_
                  refine TF_gskip rfl rfl rfl rfl rfl ?_
                  refine TF_gskip rfl rfl rfl rfl rfl ?_
                  refine TF_gskip rfl rfl rfl rfl rfl ?_
                  refine TF_gskip rfl rfl rfl rfl rfl ?_
                  refine TF_gskip rfl rfl rfl rfl rfl ?_
                  refine TF_gskip rfl rfl rfl rfl rfl ?_
                  refine TF_anchor rfl ?_
                  refine TL_gskip rfl rfl rfl rfl ?_
                  refine TF_end GivesTo.g ?_
                  refine TF_anchor rfl ?_
                  refine TL_gskip rfl rfl rfl rfl ?_
                  refine TF_end GivesTo.g ?_
                  refine TF_anchor rfl ?_
                  refine TL_gskip rfl rfl rfl rfl ?_
                  refine TF_end GivesTo.g ?_
                  refine TF_y rfl rfl (Y_pick_f rfl rfl) ?_
                  refine TF_y rfl rfl (Y_move rfl) ?_
                  refine TF_gy rfl rfl rfl rfl (Y_move rfl) ?_
                  refine TF_gy rfl rfl rfl rfl (Y_lt rfl rfl) ?_
                  refine TF_name 150 (v' := .bool true) rfl (congrArg Value.bool (decide_eq_true (by omega))) ?_
                  refine TF_gy rfl rfl rfl rfl (Y_move rfl) ?_
                  refine TF_gy rfl rfl rfl rfl (Y_move rfl) ?_
                  refine TF_gy rfl rfl rfl rfl (Y_move rfl) ?_
                  refine TF_gy rfl rfl rfl rfl (Y_index_n (R := votedR) (xs := flightsV (kp3 votes more)) rfl rfl rfl hf) ?_
                  refine TF_gy rfl rfl rfl rfl (Y_field_addr2 rfl) ?_
                  refine TF_gy rfl rfl rfl rfl (Y_field_addr2 rfl) ?_
                  refine TF_gy rfl rfl rfl rfl (Y_load_nx (xs := flightsV (kp3 votes more)) (u := f) (v := .bool f.en.noop) rfl (sln (c := c119)) hf (fun _ ↦ rfl)) ?_
                  refine TF_name 157 (v' := .bool true) rfl (congrArg Value.bool hen) ?_
                  refine TF_gy rfl rfl rfl rfl (Y_pick_t rfl rfl) ?_
                  refine TF_y rfl rfl (Y_pick_f rfl rfl) ?_
                  refine TF_y rfl rfl (Y_assign rfl) ?_
                  refine TF_nil ?_
                  refine thenS_normal ?_
                  refine T_ret ?_
                  refine inB_ret ?_
                  refine thenS_ret ?_
                  refine thenS_ret ?_
                  refine inB_ret ?_
                  refine thenS_ret ?_
                  exact RetG_1 (.inl rfl) rfl (ResV.tmp rfl) GivesTo.g (⟨rfl, rfl⟩)
                · refine RD_leaf (sl votedR (some ⟨bz, oz, none⟩) c119 (flightsV (kp3 votes more)) :: []) [0, 1, 3, 7, 7, 31, 63, 8063, 7, 7, 775, 1799, 3847, 8191, 16383, 32767, 65535, 131071, 262143, 524287, 524287, 2097151, 4194303, 8388607, 16777215, 33554431, 67108863, 134217727] [] [(0, true), (1, true), (2, true), (3, true), (4, true), (5, true), (6, true), (8, true), (9, true), (10, true), (11, true), (12, false), (7, false), (13, false), (14, true), (15, true), (16, true), (17, true), (18, true), (19, true), (20, true), (21, true), (22, true), (23, true), (24, true), (25, true), (26, true), (27, true)] (by decide +kernel) GivesTo.g ?_
                  refine TF_y rfl rfl (Y_move rfl) ?_
                  refine TF_y rfl rfl (Y_ge rfl rfl) ?_
                  refine TF_name 134 (v' := .bool false) rfl (congrArg Value.bool (decide_eq_false (by omega))) ?_
                  refine TF_y rfl rfl (Y_move rfl) ?_
                  refine TF_gskip rfl rfl rfl rfl rfl ?_
                  refine TF_gskip rfl rfl rfl rfl rfl ?_
                  refine TF_gskip rfl rfl rfl rfl rfl ?_
                  refine TF_gskip rfl rfl rfl rfl rfl ?_
                  refine TF_gskip rfl rfl rfl rfl rfl ?_
                  refine TF_gskip rfl rfl rfl rfl rfl ?_
                  refine TF_gskip rfl rfl rfl rfl rfl ?_
                  refine TF_gskip rfl rfl rfl rfl rfl ?_
                  refine TF_anchor rfl ?_
                  refine TL_gskip rfl rfl rfl rfl ?_
                  refine TF_end GivesTo.g ?_
                  refine TF_anchor rfl ?_
                  refine TL_gskip rfl rfl rfl rfl ?_
                  refine TF_end GivesTo.g ?_
                  refine TF_anchor rfl ?_
                  refine TL_gskip rfl rfl rfl rfl ?_
                  refine TF_end GivesTo.g ?_
                  refine TF_y rfl rfl (Y_pick_f rfl rfl) ?_
                  refine TF_y rfl rfl (Y_move rfl) ?_
                  refine TF_gy rfl rfl rfl rfl (Y_move rfl) ?_
                  refine TF_gy rfl rfl rfl rfl (Y_lt rfl rfl) ?_
                  refine TF_name 150 (v' := .bool true) rfl (congrArg Value.bool (decide_eq_true (by omega))) ?_
                  refine TF_gy rfl rfl rfl rfl (Y_move rfl) ?_
                  refine TF_gy rfl rfl rfl rfl (Y_move rfl) ?_
                  refine TF_gy rfl rfl rfl rfl (Y_move rfl) ?_
                  refine TF_gy rfl rfl rfl rfl (Y_index_n (R := votedR) (xs := flightsV (kp3 votes more)) rfl rfl rfl hf) ?_
                  refine TF_gy rfl rfl rfl rfl (Y_field_addr2 rfl) ?_
                  refine TF_gy rfl rfl rfl rfl (Y_field_addr2 rfl) ?_
                  refine TF_gy rfl rfl rfl rfl (Y_load_nx (xs := flightsV (kp3 votes more)) (u := f) (v := .bool f.en.noop) rfl (sln (c := c119)) hf (fun _ ↦ rfl)) ?_
                  refine TF_name 157 (v' := .bool true) rfl (congrArg Value.bool hen) ?_
                  refine TF_gy rfl rfl rfl rfl (Y_pick_t rfl rfl) ?_
                  refine TF_y rfl rfl (Y_pick_f rfl rfl) ?_
                  refine TF_y rfl rfl (Y_assign rfl) ?_
                  refine TF_nil ?_
                  refine thenS_normal ?_
                  refine T_ret ?_
                  refine inB_ret ?_
                  refine thenS_ret ?_
                  refine thenS_ret ?_
                  refine inB_ret ?_
                  refine thenS_ret ?_
                  exact RetG_1 (.inl rfl) rfl (ResV.tmp rfl) GivesTo.g (⟨rfl, rfl⟩)
              · refine T_skip ?_
                refine inB_normal ?_
                refine thenS_normal ?_
                refine T_region_last ?_
                refine TL_y rfl rfl (Y_move rfl) ?_
                refine TL_y rfl rfl (Y_add rfl rfl (by omega)) ?_
                refine TL_name 125 (v' := .int .i64 ((i + 1 : Nat) : Int)) rfl (rfl) ?_
                refine TL_y rfl rfl (Y_assign rfl) ?_
                refine TL_nil ?_
                refine thenS_normal ?_
                exact ⟨i + 1, ⟨by omega, by rw [takeAt hf]; intro q hq; rcases List.mem_append.1 hq with h | h; (exact hno q h); (rw [List.mem_singleton.1 h]; exact h132)⟩, by omega, holds_to (sub_cons rfl (sub_cons rfl (sub_cons rfl (sub_cons rfl (sub_cons rfl (sub_nil)))))) GivesTo.g⟩
            · refine T_exit ?_
              refine thenS_exit ?_
              refine thenS_exit ?_
              refine inB_hit ?_
              refine thenS_normal ?_
              refine T_region ?_
              refine TL_y rfl rfl (Y_move rfl) ?_
              refine TL_y rfl rfl (Y_lt rfl rfl) ?_
              refine TL_name 161 (v' := .bool true) rfl (congrArg Value.bool (decide_eq_true (by omega))) ?_
              refine TL_y rfl rfl (Y_move rfl) ?_
              refine TL_gskip rfl rfl rfl rfl ?_
              refine TL_gskip rfl rfl rfl rfl ?_
              refine TL_y rfl rfl (Y_pick_t rfl rfl) ?_
              refine TL_y rfl rfl (Y_assign rfl) ?_
              refine TL_nil ?_
              refine T_ret ?_
              exact RetG_1 (.inl rfl) rfl (ResV.tmp rfl) GivesTo.g (⟨rfl, rfl⟩)
          · dsimp only at hp
            rw [List.take_of_length_le (show (votes ++ more).length ≤ i by omega)] at hp
            refine T_region ?_
            refine TL_y rfl rfl (Y_move rfl) ?_
            refine TL_pullk b22 ?_
            refine TL_call rfl rfl (prFlights_spec) ?_
            rintro _ _ ⟨A119, c119, rfl, rfl⟩
            refine TL_freeze_osl ?_
            refine TL_y rfl rfl (Y_assign rfl) ?_
            refine TL_nil ?_
            refine T_seq ?_
            refine T_region ?_
            refine TL_y rfl rfl (Y_assign rfl) ?_
            refine TL_nil ?_
            refine T_block ?_
            refine T_loopK (σ := Nat) [2, 14, 15, 19] (fun i => i ≤ (flightsV (kp3 votes more)).length ∧ ∀ u ∈ (flightsV (kp3 votes more)).take i, u.slot ≠ slot) (fun i kv => (20, .int .i64 (i : Int)) :: kv) (fun i => sl votedR A119 c119 (flightsV (kp3 votes more)) :: sl votedR A67 c67 (votes ++ more) :: L) (fun i => (flightsV (kp3 votes more)).length - i) (0) rfl (⟨Nat.zero_le _, by simp⟩) (GivesTo.g) (sub_cons rfl (sub_cons rfl (sub_cons rfl (sub_cons rfl (sub_cons rfl (sub_nil)))))) ?_
            rintro i ⟨hil2, hno⟩
            refine SlN.lens (sln (A := A119) (c := c119)) fun hlx => ?_
            simp only [maxEl] at hlx
            refine T_seq ?_
            refine T_region ?_
            refine TL_y rfl rfl (Y_move rfl) ?_
            refine TL_y rfl rfl (Y_move rfl) ?_
            refine TL_y rfl rfl (Y_len rfl) ?_
            refine TL_y rfl rfl (Y_lt rfl rfl) ?_
            refine TL_nil ?_
            refine T_if rfl (fun h123 => ?_) (fun h123 => ?_)
            · refine T_skip ?_
              refine thenS_normal ?_
              refine T_seq ?_
              refine T_block ?_
              obtain ⟨f, hf⟩ : ∃ f, (flightsV (kp3 votes more))[i]? = some f := ⟨_, List.getElem?_eq_getElem (by omega)⟩
              have hfe := hKf.en f (List.mem_of_getElem? hf)
              refine T_addr_n (sln (A := A119) (c := c119)) hf fun bz oz ez => ?_
              subst ez
              refine T_region ?_
              refine TL_y rfl rfl (Y_move rfl) ?_
              refine TL_y rfl rfl (Y_move rfl) ?_
              refine TL_y rfl rfl (Y_index_n (R := votedR) (xs := flightsV (kp3 votes more)) rfl rfl rfl hf) ?_
              refine TL_y rfl rfl (Y_field_addr2 rfl) ?_
              refine TL_y rfl rfl (Y_load_nx (xs := flightsV (kp3 votes more)) (u := f) (v := .int .i64 f.slot) rfl (sln (c := c119)) hf (fun _ ↦ rfl)) ?_
              refine TL_y rfl rfl (Y_move rfl) ?_
              refine TL_y rfl rfl (Y_eq rfl rfl) ?_
              refine TL_nil ?_
              refine T_if rfl (fun h132 => ?_) (fun h132 => ?_)
              · have hen : f.en = u.en := (by rw [hfe, h132]; unfold keptE; rw [hp]; rfl)
                refine T_addr_n (sln (A := A67) (c := c67)) hu fun bl ol el => ?_
                subst el
                refine T_rd [0, 1, 3, 7, 7, 31, 63, 127, 7, 7, 775, 1799, 3847, 8191, 16383, 32767, 65535, 131071, 262143, 524287, 524287, 2097151, 4194303, 8388607, 16777215, 33554431, 67108863, 134217727] (by kernel_rfl) (by decide +kernel) ?_
                refine RD_pair 7 12 (by decide) ?_ ?_
                · refine RD_leaf (sl votedR (some ⟨bz, oz, none⟩) c119 (flightsV (kp3 votes more)) :: sl votedR (some ⟨bl, ol, none⟩) c67 (votes ++ more) :: []) [0, 1, 3, 7, 7, 31, 63, 127, 7, 7, 775, 1799, 4095, 8191, 16383, 32767, 65535, 131071, 262143, 524287, 524287, 2097151, 4194303, 8388607, 16777215, 33554431, 67108863, 134217727] [] [(0, true), (1, true), (2, true), (3, true), (4, true), (5, true), (6, true), (8, true), (9, true), (10, true), (11, true), (7, false), (12, false), (13, false), (14, true), (15, true), (16, true), (17, true), (18, true), (19, true), (20, true), (21, true), (22, true), (23, true), (24, true), (25, true), (26, true), (27, true)] (by decide +kernel) GivesTo.g ?_
                  refine TF_y rfl rfl (Y_move rfl) ?_
                  refine TF_y rfl rfl (Y_ge rfl rfl) ?_
                  refine TF_name 134 (v' := .bool true) rfl (congrArg Value.bool (decide_eq_true (by omega))) ?_
                  refine TF_y rfl rfl (Y_move rfl) ?_
                  refine TF_gy rfl rfl rfl rfl (Y_move rfl) ?_
                  refine TF_gy rfl rfl rfl rfl (Y_move rfl) ?_
                  refine TF_gy rfl rfl rfl rfl (Y_index_n (R := votedR) (xs := flightsV (kp3 votes more)) rfl rfl rfl hf) ?_
                  refine TF_gy rfl rfl rfl rfl (Y_field_addr2 rfl) ?_
                  refine TF_gy rfl rfl rfl rfl (Y_move rfl) ?_
                  refine TF_gy rfl rfl rfl rfl (Y_move rfl) ?_
                  refine TF_gy rfl rfl rfl rfl (Y_index_n (R := votedR) (xs := votes ++ more) rfl rfl rfl hu) ?_
                  refine TF_gy rfl rfl rfl rfl (Y_field_addr2 rfl) ?_
                  refine TF_anchor rfl ?_
                  refine TL_grun rfl rfl ?_
                  refine TL_load_nx (xs := flightsV (kp3 votes more)) rfl rfl (sln (c := c119)) hf (fun _ => rfl) ?_
                  intro p140 ok140
                  simp only [List.cons_append, List.nil_append]
                  refine TF_end GivesTo.g ?_
                  refine TF_anchor rfl ?_
                  refine TL_grun rfl rfl ?_
                  refine TL_load_nx (xs := votes ++ more) rfl rfl (sln (c := c67)) hu (fun _ => rfl) ?_
                  intro p145 ok145
                  simp only [List.cons_append, List.nil_append]
                  refine TF_end GivesTo.g ?_
                  refine TF_anchor rfl ?_
                  refine TL_grun rfl rfl ?_
                  refine TL_call rfl rfl (sameEntry_spec f.en u.en (A := p140.1) (c := p140.2) (B := p145.1) (d := p145.2) sln sln) ?_
                  rintro _ _ ⟨rfl, rfl⟩
                  refine TL_name 146 (v' := .bool true) rfl (congrArg Value.bool (decide_eq_true hen)) ?_
                  refine TF_end GivesTo.g ?_
                  refine TF_y rfl rfl (Y_pick_t rfl rfl) ?_
                  refine TF_y rfl rfl (Y_move rfl) ?_
                  refine TF_gskip rfl rfl rfl rfl rfl ?_
                  refine TF_gskip rfl rfl rfl rfl rfl ?_
                  refine TF_gskip rfl rfl rfl rfl rfl ?_
                  refine TF_gskip_u rfl rfl rfl rfl ?_
                  refine TF_gskip_u rfl rfl rfl rfl ?_
                  refine TF_gskip_u rfl rfl rfl rfl ?_
                  refine TF_gskip_u rfl rfl rfl rfl ?_
                  refine TF_gskip_u rfl rfl rfl rfl ?_
                  refine TF_gskip_u rfl rfl rfl rfl ?_
                  refine TF_gskip rfl rfl rfl rfl rfl ?_
                  refine TF_y rfl rfl (Y_pick_t rfl rfl) ?_
                  refine TF_y rfl rfl (Y_assign rfl) ?_
                  refine TF_nil ?_
                  refine thenS_normal ?_
                  refine T_ret ?_
                  refine inB_ret ?_
                  refine thenS_ret ?_
                  refine thenS_ret ?_
                  refine inB_ret ?_
                  refine thenS_ret ?_
                  exact RetG_1 (.inl rfl) rfl (ResV.tmp rfl) GivesTo.g (⟨rfl, rfl⟩)
                · refine RD_leaf (sl votedR (some ⟨bz, oz, none⟩) c119 (flightsV (kp3 votes more)) :: sl votedR (some ⟨bl, ol, none⟩) c67 (votes ++ more) :: []) [0, 1, 3, 7, 7, 31, 63, 8063, 7, 7, 775, 1799, 3847, 8191, 16383, 32767, 65535, 131071, 262143, 524287, 524287, 2097151, 4194303, 8388607, 16777215, 33554431, 67108863, 134217727] [] [(0, true), (1, true), (2, true), (3, true), (4, true), (5, true), (6, true), (8, true), (9, true), (10, true), (11, true), (12, false), (7, false), (13, false), (14, true), (15, true), (16, true), (17, true), (18, true), (19, true), (20, true), (21, true), (22, true), (23, true), (24, true), (25, true), (26, true), (27, true)] (by decide +kernel) GivesTo.g ?_
                  refine TF_y rfl rfl (Y_move rfl) ?_
                  refine TF_y rfl rfl (Y_ge rfl rfl) ?_
                  refine TF_name 134 (v' := .bool true) rfl (congrArg Value.bool (decide_eq_true (by omega))) ?_
                  refine TF_y rfl rfl (Y_move rfl) ?_
                  refine TF_gy rfl rfl rfl rfl (Y_move rfl) ?_
                  refine TF_gy rfl rfl rfl rfl (Y_move rfl) ?_
                  refine TF_gy rfl rfl rfl rfl (Y_index_n (R := votedR) (xs := flightsV (kp3 votes more)) rfl rfl rfl hf) ?_
                  refine TF_gy rfl rfl rfl rfl (Y_field_addr2 rfl) ?_
                  refine TF_gy rfl rfl rfl rfl (Y_move rfl) ?_
                  refine TF_gy rfl rfl rfl rfl (Y_move rfl) ?_
                  refine TF_gy rfl rfl rfl rfl (Y_index_n (R := votedR) (xs := votes ++ more) rfl rfl rfl hu) ?_
                  refine TF_gy rfl rfl rfl rfl (Y_field_addr2 rfl) ?_
                  refine TF_anchor rfl ?_
                  refine TL_grun rfl rfl ?_
                  refine TL_load_nx (xs := votes ++ more) rfl rfl (sln (c := c67)) hu (fun _ => rfl) ?_
                  intro p145 ok145
                  simp only [List.cons_append, List.nil_append]
                  refine TF_end GivesTo.g ?_
                  refine TF_anchor rfl ?_
                  refine TL_grun rfl rfl ?_
                  refine TL_load_nx (xs := flightsV (kp3 votes more)) rfl rfl (sln (c := c119)) hf (fun _ => rfl) ?_
                  intro p140 ok140
                  simp only [List.cons_append, List.nil_append]
                  refine TF_end GivesTo.g ?_
                  refine TF_anchor rfl ?_
                  refine TL_grun rfl rfl ?_
                  refine TL_call rfl rfl (sameEntry_spec f.en u.en (A := p140.1) (c := p140.2) (B := p145.1) (d := p145.2) sln sln) ?_
                  rintro _ _ ⟨rfl, rfl⟩
                  refine TL_name 146 (v' := .bool true) rfl (congrArg Value.bool (decide_eq_true hen)) ?_
                  refine TF_end GivesTo.g ?_
                  refine TF_y rfl rfl (Y_pick_t rfl rfl) ?_
                  refine TF_y rfl rfl (Y_move rfl) ?_
                  refine TF_gskip rfl rfl rfl rfl rfl ?_
                  refine TF_gskip rfl rfl rfl rfl rfl ?_
                  refine TF_gskip rfl rfl rfl rfl rfl ?_
                  refine TF_gskip_u rfl rfl rfl rfl ?_
                  refine TF_gskip_u rfl rfl rfl rfl ?_
                  refine TF_gskip_u rfl rfl rfl rfl ?_
                  refine TF_gskip_u rfl rfl rfl rfl ?_
                  refine TF_gskip_u rfl rfl rfl rfl ?_
                  refine TF_gskip_u rfl rfl rfl rfl ?_
                  refine TF_gskip rfl rfl rfl rfl rfl ?_
                  refine TF_y rfl rfl (Y_pick_t rfl rfl) ?_
                  refine TF_y rfl rfl (Y_assign rfl) ?_
                  refine TF_nil ?_
                  refine thenS_normal ?_
                  refine T_ret ?_
                  refine inB_ret ?_
                  refine thenS_ret ?_
                  refine thenS_ret ?_
                  refine inB_ret ?_
                  refine thenS_ret ?_
                  exact RetG_1 (.inl rfl) rfl (ResV.tmp rfl) GivesTo.g (⟨rfl, rfl⟩)
              · refine T_skip ?_
                refine inB_normal ?_
                refine thenS_normal ?_
                refine T_region_last ?_
                refine TL_y rfl rfl (Y_move rfl) ?_
                refine TL_y rfl rfl (Y_add rfl rfl (by omega)) ?_
                refine TL_name 125 (v' := .int .i64 ((i + 1 : Nat) : Int)) rfl (rfl) ?_
                refine TL_y rfl rfl (Y_assign rfl) ?_
                refine TL_nil ?_
                refine thenS_normal ?_
                exact ⟨i + 1, ⟨by omega, by rw [takeAt hf]; intro q hq; rcases List.mem_append.1 hq with h | h; (exact hno q h); (rw [List.mem_singleton.1 h]; exact h132)⟩, by omega, holds_to (sub_cons rfl (sub_cons rfl (sub_cons rfl (sub_cons rfl (sub_cons rfl (sub_nil)))))) GivesTo.g⟩
            · refine T_exit ?_
              refine thenS_exit ?_
              refine thenS_exit ?_
              refine inB_hit ?_
              refine thenS_normal ?_
              refine T_region ?_
              refine TL_y rfl rfl (Y_move rfl) ?_
              refine TL_y rfl rfl (Y_lt rfl rfl) ?_
              refine TL_name 161 (v' := .bool false) rfl (congrArg Value.bool (decide_eq_false (by omega))) ?_
              refine TL_y rfl rfl (Y_move rfl) ?_
              refine TL_grun rfl rfl ?_
              refine TL_y rfl rfl (Y_move rfl) ?_
              refine TL_grun rfl rfl ?_
              refine TL_y rfl rfl (Y_lt rfl rfl) ?_
              refine TL_name 164 (v' := .bool true) rfl (congrArg Value.bool (decide_eq_true (by exfalso; rw [List.take_of_length_le (show (flightsV (kp3 votes more)).length ≤ i by omega)] at hno; have hu1 := pickV_some hp; have hu2 := hin u hu1.1; obtain ⟨f, hf, hs⟩ := hKf.all u.slot hu2.1 hu2.2; exact hno f hf (hs.trans hu1.2.1)))) ?_
              refine TL_y rfl rfl (Y_pick_f rfl rfl) ?_
              refine TL_y rfl rfl (Y_assign rfl) ?_
              refine TL_nil ?_
              refine T_ret ?_
              exact RetG_1 (.inl rfl) rfl (ResV.tmp rfl) GivesTo.g (⟨rfl, rfl⟩)
  · refine RD_leaf (pr b22 kp1 :: cells b9 [.bool true, .string ⟨#[]⟩, .string ⟨#[]⟩, .int .i64 0, .slice none 0 0] 27 :: []) [0, 33, 0, 0, 47, 0, 63] [] [(0, true), (2, true), (3, true), (5, false), (1, false), (4, true), (6, false)] (by decide +kernel) GivesTo.g ?_
    refine TF_y rfl rfl (Y_move rfl) ?_
    refine TF_y rfl rfl (Y_load_agg rfl rfl) ?_
    refine TF_y rfl rfl (Y_move rfl) ?_
    refine TF_anchor rfl ?_
    refine TL_alloc rfl rfl ?_
    intro b12
    refine TF_end GivesTo.g ?_
    refine TF_anchor rfl ?_
    refine TL_pullk b22 ?_
    refine TL_call rfl rfl (prBallot_spec) ?_
    rintro _ _ ⟨rfl, rfl⟩
    refine TF_end GivesTo.g ?_
    refine TF_y rfl rfl (Y_build rfl rfl) ?_
    refine TF_anchor rfl ?_
    refine TL_store rfl rfl rfl rfl rfl rfl ?_
    refine TF_end GivesTo.g ?_
    refine TF_nil ?_
    refine thenS_normal ?_
    refine T_rd [0, 1, 0, 0, 15, 0, 63] (by kernel_rfl) (by decide +kernel) ?_
    refine RD_pair 1 5 (by decide) ?_ ?_
    · refine RD_leaf (pr b22 kp1 :: cells b9 [.bool true, .string ⟨#[]⟩, .string ⟨#[]⟩, .int .i64 0, .slice none 0 0] 27 :: []) [0, 1, 0, 0, 15, 3, 63] [] [(0, true), (2, true), (3, true), (1, false), (4, true), (5, false), (6, false)] (by decide +kernel) GivesTo.g ?_
      refine TF_y rfl rfl (Y_move rfl) ?_
      refine TF_y rfl rfl (Y_load_agg rfl rfl) ?_
      refine TF_y rfl rfl (Y_move rfl) ?_
      refine TF_anchor rfl ?_
      refine TL_pullk b22 ?_
      refine TL_call rfl rfl (prBallot_spec) ?_
      rintro _ _ ⟨rfl, rfl⟩
      refine TF_end GivesTo.g ?_
      refine TF_y rfl rfl (Y_build rfl rfl) ?_
      refine TF_anchor rfl ?_
      refine TL_alloc rfl rfl ?_
      intro b13
      refine TF_end GivesTo.g ?_
      refine TF_anchor rfl ?_
      refine TL_store rfl rfl rfl rfl rfl rfl ?_
      refine TF_end GivesTo.g ?_
      refine TF_nil ?_
      refine thenS_normal ?_
      refine T_region ?_
      refine TL_y rfl rfl (Y_move rfl) ?_
      refine TL_y rfl rfl (Y_load_agg rfl rfl) ?_
      refine TL_pullk b22 ?_
      refine TL_call rfl rfl (prOn_spec (p := kp1) (kpA votes) ⟨(none, 0), (A, c), (none, 0), (none, 0)⟩ (kpA_ok votes) ⟨slnil, slk, slnil, slnil⟩ (show cSeal noopE.order + cVoteds votes + 10 * 0 + 0 + 200 ≤ 140737488355328 from by have : cSeal noopE.order = 60 := rfl; omega)) ?_
      rintro _ _ ⟨A56, c56, B56, d56, rfl, rfl⟩
      refine TL_nil ?_
      refine T_region ?_
      refine TL_y rfl rfl (Y_move rfl) ?_
      refine TL_y rfl rfl (Y_load_agg rfl rfl) ?_
      refine TL_pullk b22 ?_
      refine TL_call rfl rfl (prOn_spec (p := (onP kp1 (kpA votes)).1) (kpB more) ⟨(none, 0), (A2, c2), (none, 0), (none, 0)⟩ (kpB_ok more) ⟨slnil, slk, slnil, slnil⟩ (show cSeal noopE.order + cVoteds more + 10 * 0 + 0 + 200 ≤ 140737488355328 from by have : cSeal noopE.order = 60 := rfl; omega)) ?_
      rintro _ _ ⟨A59, c59, B59, d59, rfl, rfl⟩
      rw [show (onP (onP kp1 (kpA votes)).1 (kpB more)).1 = kp3 votes more from rfl]
      refine TL_nil ?_
      refine T_seq ?_
      refine T_region ?_
      refine TL_y rfl rfl (Y_move rfl) ?_
      refine TL_pullk b22 ?_
      refine TL_call rfl rfl (prPhase_spec) ?_
      rintro _ _ ⟨rfl, rfl⟩
      refine TL_y rfl rfl (Y_ne rfl rfl) ?_
      refine TL_nil ?_
      refine T_if rfl (fun h62 => ?_) (fun h62 => ?_)
      · refine T_region ?_
        refine TL_y rfl rfl (Y_assign rfl) ?_
        refine TL_nil ?_
        refine T_ret ?_
        refine thenS_ret ?_
        exact RetG_1 (.inl rfl) rfl (ResV.tmp rfl) GivesTo.g (⟨rfl, rfl⟩)
      · refine T_skip ?_
        refine thenS_normal ?_
        obtain ⟨q, k, hqF, hqf, hin, hP⟩ := kp_lead (Classical.not_not.1 h62)
        have hKf := kf_of hqF hqf (votes ++ more) k
        rw [← hP] at hKf
        refine T_region ?_
        refine TL_build_slice rfl rfl rfl rfl rfl rfl ?_
        intro b63
        refine TL_osl (k := 0) votedR [] (Knows.const fun M => rfl) rfl (by simp) ?_
        refine TL_name 63 (v' := .slice (some ⟨b63, 0, none⟩) ([] : List VotedD).length 0) rfl rfl ?_
        refine TL_y rfl rfl (Y_move rfl) ?_
        refine TL_append rfl rfl rfl rfl rfl slk (by simp only [List.length_nil]; omega) ?_
        intro A65 c65
        rw [List.nil_append]
        refine TL_y rfl rfl (Y_move rfl) ?_
        refine TL_append rfl rfl rfl rfl rfl slk (by omega) ?_
        intro A67 c67
        refine TL_freeze_osl ?_
        refine TL_y rfl rfl (Y_assign rfl) ?_
        refine TL_nil ?_
        refine T_region ?_
        refine TL_y rfl rfl (Y_assign rfl) ?_
        refine TL_nil ?_
        refine T_seq ?_
        refine T_region ?_
        refine TL_y rfl rfl (Y_assign rfl) ?_
        refine TL_nil ?_
        refine T_block ?_
        refine T_loopK (σ := RpSt) [2, 7, 14] (fun g => g.i ≤ (votes ++ more).length ∧ RpI (votes ++ more) slot g) (fun g kv => (16, .int .i64 (g.i : Int)) :: (15, .int .i64 g.r) :: kv) (fun g => sl votedR A67 c67 (votes ++ more) :: pr b22 (kp3 votes more) :: L) (fun g => (votes ++ more).length - g.i) (⟨0, -1⟩) rfl (⟨Nat.zero_le _, .inl ⟨rfl, rfl⟩⟩) (GivesTo.g) (sub_cons rfl (sub_cons rfl (sub_cons rfl (sub_cons rfl (sub_cons rfl (sub_nil)))))) ?_
        rintro ⟨i, r⟩ ⟨hil, hri⟩
        dsimp only at hil ⊢
        have hlW : (votes ++ more).length = votes.length + more.length := List.length_append
        refine T_seq ?_
        refine T_region ?_
        refine TL_y rfl rfl (Y_move rfl) ?_
        refine TL_y rfl rfl (Y_move rfl) ?_
        refine TL_y rfl rfl (Y_len rfl) ?_
        refine TL_y rfl rfl (Y_lt rfl rfl) ?_
        refine TL_nil ?_
        refine T_if rfl (fun h71 => ?_) (fun h71 => ?_)
        · refine T_skip ?_
          refine thenS_normal ?_
          refine T_seq ?_
          refine T_block ?_
          refine T_seq ?_
          rcases hri with ⟨rfl, hp⟩ | ⟨j, u, rfl, hu, hp⟩
          · obtain ⟨v, hv⟩ : ∃ v, (votes ++ more)[i]? = some v := ⟨_, List.getElem?_eq_getElem (by omega)⟩
            have hnx := pickV_next (slot := slot) hv
            refine T_addr_n (sln (A := A67) (c := c67)) hv fun bl ol el => ?_
            subst el
            dsimp only at hp
            refine T_region ?_
            refine TL_y rfl rfl (Y_move rfl) ?_
            refine TL_y rfl rfl (Y_move rfl) ?_
            refine TL_y rfl rfl (Y_index_n (R := votedR) (xs := votes ++ more) rfl rfl rfl hv) ?_
            refine TL_y rfl rfl (Y_field_addr2 rfl) ?_
            refine TL_y rfl rfl (Y_load_nx (xs := votes ++ more) (u := v) (v := .int .i64 v.slot) rfl (sln (c := c67)) hv (fun _ ↦ rfl)) ?_
            refine TL_y rfl rfl (Y_move rfl) ?_
            refine TL_y rfl rfl (Y_ne rfl rfl) ?_
            refine TL_nil ?_
            refine T_if rfl (fun h80 => ?_) (fun h80 => ?_)
            · refine T_exit ?_
              refine thenS_exit ?_
              refine inB_hit ?_
              refine thenS_normal ?_
              refine T_region_last ?_
              refine TL_y rfl rfl (Y_move rfl) ?_
              refine TL_y rfl rfl (Y_add rfl rfl (by omega)) ?_
              refine TL_name 73 (v' := .int .i64 ((i + 1 : Nat) : Int)) rfl (rfl) ?_
              refine TL_y rfl rfl (Y_assign rfl) ?_
              refine TL_nil ?_
              refine thenS_normal ?_
              exact ⟨⟨i + 1, -1⟩, ⟨by simp only; omega, .inl ⟨rfl, by rw [hnx, better_no h80, hp]⟩⟩, by simp only; omega, holds_to (sub_cons rfl (sub_cons rfl (sub_cons rfl (sub_cons rfl (sub_cons rfl (sub_nil)))))) GivesTo.g⟩
            · refine T_skip ?_
              refine thenS_normal ?_
              refine T_region ?_
              refine TL_y rfl rfl (Y_move rfl) ?_
              refine TL_y rfl rfl (Y_move rfl) ?_
              refine TL_y rfl rfl (Y_index_n (R := votedR) (xs := votes ++ more) rfl rfl rfl hv) ?_
              refine TL_y rfl rfl (Y_field_addr2 rfl) ?_
              refine TL_y rfl rfl (Y_load_nxa (xs := votes ++ more) (u := v) (vs := [.int .i64 v.bal.1, .int .i64 v.bal.2]) rfl (sln (c := c67)) hv (fun _ ↦ rfl)) ?_
              refine TL_y rfl rfl (Y_build rfl rfl) ?_
              refine TL_alloc rfl rfl ?_
              intro b17
              refine TL_alloc rfl rfl ?_
              intro b18
              refine TL_store rfl rfl rfl rfl rfl rfl ?_
              refine TL_store rfl rfl rfl rfl rfl rfl ?_
              refine TL_nil ?_
              refine T_seq ?_
              refine T_region ?_
              refine TL_y rfl rfl (Y_move rfl) ?_
              refine TL_y rfl rfl (Y_ge rfl rfl) ?_
              refine TL_name 88 (v' := .bool false) rfl (congrArg Value.bool (decide_eq_false (by omega))) ?_
              refine TL_nil ?_
              refine T_cond_false rfl ?_
              refine T_skip ?_
              refine thenS_normal ?_
              refine T_region ?_
              refine TL_y rfl rfl (Y_move rfl) ?_
              refine TL_y rfl rfl (Y_lt rfl rfl) ?_
              refine TL_name 95 (v' := .bool true) rfl (congrArg Value.bool (decide_eq_true (by omega))) ?_
              refine TL_y rfl rfl (Y_move rfl) ?_
              refine TL_gskip rfl rfl rfl rfl ?_
              refine TL_gskip rfl rfl rfl rfl ?_
              refine TL_gskip rfl rfl rfl rfl ?_
              refine TL_gskip rfl rfl rfl rfl ?_
              refine TL_gskip rfl rfl rfl rfl ?_
              refine TL_y rfl rfl (Y_pick_t rfl rfl) ?_
              refine TL_y rfl rfl (Y_move rfl) ?_
              refine TL_gskip rfl rfl rfl rfl ?_
              refine TL_gskip rfl rfl rfl rfl ?_
              refine TL_gskip rfl rfl rfl rfl ?_
              refine TL_gskip rfl rfl rfl rfl ?_
              refine TL_gskip rfl rfl rfl rfl ?_
              refine TL_gskip rfl rfl rfl rfl ?_
              refine TL_gskip_u rfl rfl rfl ?_
              refine TL_gskip_u rfl rfl rfl ?_
              refine TL_gskip_u rfl rfl rfl ?_
              refine TL_gskip_u rfl rfl rfl ?_
              refine TL_gskip_u rfl rfl rfl ?_
              refine TL_gskip rfl rfl rfl rfl ?_
              refine TL_y rfl rfl (Y_pick_t rfl rfl) ?_
              refine TL_nil ?_
              refine T_cond_true rfl ?_
              refine T_region_last ?_
              refine TL_y rfl rfl (Y_move rfl) ?_
              refine TL_y rfl rfl (Y_assign rfl) ?_
              refine TL_nil ?_
              refine inB_normal ?_
              refine thenS_normal ?_
              refine T_region_last ?_
              refine TL_y rfl rfl (Y_move rfl) ?_
              refine TL_y rfl rfl (Y_add rfl rfl (by omega)) ?_
              refine TL_name 73 (v' := .int .i64 ((i + 1 : Nat) : Int)) rfl (rfl) ?_
              refine TL_y rfl rfl (Y_assign rfl) ?_
              refine TL_nil ?_
              refine thenS_normal ?_
              exact ⟨⟨i + 1, (i : Int)⟩, ⟨by simp only; omega, .inr ⟨i, v, rfl, hv, by rw [hnx, better_first (Classical.not_not.1 h80) (by rw [hp]; rfl)]⟩⟩, by simp only; omega, holds_to (sub_cons rfl (sub_cons rfl (sub_cons rfl (sub_cons rfl (sub_cons rfl (sub_nil)))))) GivesTo.g⟩
          · obtain ⟨v, hv⟩ : ∃ v, (votes ++ more)[i]? = some v := ⟨_, List.getElem?_eq_getElem (by omega)⟩
            have hnx := pickV_next (slot := slot) hv
            refine T_addr_n (sln (A := A67) (c := c67)) hv fun bl ol el => ?_
            subst el
            dsimp only at hp
            refine T_region ?_
            refine TL_y rfl rfl (Y_move rfl) ?_
            refine TL_y rfl rfl (Y_move rfl) ?_
            refine TL_y rfl rfl (Y_index_n (R := votedR) (xs := votes ++ more) rfl rfl rfl hv) ?_
            refine TL_y rfl rfl (Y_field_addr2 rfl) ?_
            refine TL_y rfl rfl (Y_load_nx (xs := votes ++ more) (u := v) (v := .int .i64 v.slot) rfl (sln (c := c67)) hv (fun _ ↦ rfl)) ?_
            refine TL_y rfl rfl (Y_move rfl) ?_
            refine TL_y rfl rfl (Y_ne rfl rfl) ?_
            refine TL_nil ?_
            refine T_if rfl (fun h80 => ?_) (fun h80 => ?_)
            · refine T_exit ?_
              refine thenS_exit ?_
              refine inB_hit ?_
              refine thenS_normal ?_
              refine T_region_last ?_
              refine TL_y rfl rfl (Y_move rfl) ?_
              refine TL_y rfl rfl (Y_add rfl rfl (by omega)) ?_
              refine TL_name 73 (v' := .int .i64 ((i + 1 : Nat) : Int)) rfl (rfl) ?_
              refine TL_y rfl rfl (Y_assign rfl) ?_
              refine TL_nil ?_
              refine thenS_normal ?_
              exact ⟨⟨i + 1, (j : Int)⟩, ⟨by simp only; omega, .inr ⟨j, u, rfl, hu, by rw [hnx, better_no h80, hp]⟩⟩, by simp only; omega, holds_to (sub_cons rfl (sub_cons rfl (sub_cons rfl (sub_cons rfl (sub_cons rfl (sub_nil)))))) GivesTo.g⟩
            · refine T_skip ?_
              refine thenS_normal ?_
              refine T_region ?_
              refine TL_y rfl rfl (Y_move rfl) ?_
              refine TL_y rfl rfl (Y_move rfl) ?_
              refine TL_y rfl rfl (Y_index_n (R := votedR) (xs := votes ++ more) rfl rfl rfl hv) ?_
              refine TL_y rfl rfl (Y_field_addr2 rfl) ?_
              refine TL_y rfl rfl (Y_load_nxa (xs := votes ++ more) (u := v) (vs := [.int .i64 v.bal.1, .int .i64 v.bal.2]) rfl (sln (c := c67)) hv (fun _ ↦ rfl)) ?_
              refine TL_y rfl rfl (Y_build rfl rfl) ?_
              refine TL_alloc rfl rfl ?_
              intro b17
              refine TL_alloc rfl rfl ?_
              intro b18
              refine TL_store rfl rfl rfl rfl rfl rfl ?_
              refine TL_store rfl rfl rfl rfl rfl rfl ?_
              refine TL_nil ?_
              refine T_seq ?_
              refine T_region ?_
              refine TL_y rfl rfl (Y_move rfl) ?_
              refine TL_y rfl rfl (Y_ge rfl rfl) ?_
              refine TL_name 88 (v' := .bool true) rfl (congrArg Value.bool (decide_eq_true (by omega))) ?_
              refine TL_nil ?_
              refine T_cond_true rfl ?_
              refine T_region_last ?_
              refine TL_y rfl rfl (Y_move rfl) ?_
              refine TL_y rfl rfl (Y_move rfl) ?_
              refine TL_y rfl rfl (Y_index_n (R := votedR) (xs := votes ++ more) rfl rfl rfl hu) ?_
              refine TL_y rfl rfl (Y_field_addr2 rfl) ?_
              refine TL_y rfl rfl (Y_load_nxa (xs := votes ++ more) (u := u) (vs := [.int .i64 u.bal.1, .int .i64 u.bal.2]) rfl (sln (c := c67)) hu (fun _ ↦ rfl)) ?_
              refine TL_store rfl rfl rfl rfl rfl rfl ?_
              refine TL_nil ?_
              refine thenS_normal ?_
              refine T_region ?_
              refine TL_y rfl rfl (Y_move rfl) ?_
              refine TL_y rfl rfl (Y_lt rfl rfl) ?_
              refine TL_name 95 (v' := .bool false) rfl (congrArg Value.bool (decide_eq_false (by omega))) ?_
              refine TL_y rfl rfl (Y_move rfl) ?_
              refine TL_both 20 116 ((0 < cmpB v.bal u.bal)) ?_ ?_
              · refine TL_grun rfl rfl ?_
                refine TL_y rfl rfl (Y_field_addr rfl) ?_
                refine TL_grun rfl rfl ?_
                refine TL_y rfl rfl (Y_load rfl rfl) ?_
                refine TL_grun rfl rfl ?_
                refine TL_y rfl rfl (Y_field_addr rfl) ?_
                refine TL_grun rfl rfl ?_
                refine TL_y rfl rfl (Y_load rfl rfl) ?_
                refine TL_grun rfl rfl ?_
                refine TL_y rfl rfl (Y_gt rfl rfl) ?_
                refine TL_y rfl rfl (Y_pick_f rfl rfl) ?_
                refine TL_y rfl rfl (Y_move rfl) ?_
                refine TL_splitd 103 rfl (fun h103 => ?_) (fun h103 => ?_)
                · refine TL_gskip rfl rfl rfl rfl ?_
                  refine TL_gskip rfl rfl rfl rfl ?_
                  refine TL_gskip rfl rfl rfl rfl ?_
                  refine TL_gskip rfl rfl rfl rfl ?_
                  refine TL_gskip rfl rfl rfl rfl ?_
                  refine TL_gskip rfl rfl rfl rfl ?_
                  refine TL_gskip_u rfl rfl rfl ?_
                  refine TL_gskip_u rfl rfl rfl ?_
                  refine TL_gskip_u rfl rfl rfl ?_
                  refine TL_gskip_u rfl rfl rfl ?_
                  refine TL_gskip_u rfl rfl rfl ?_
                  refine TL_gskip rfl rfl rfl rfl ?_
                  refine TL_y rfl rfl (Y_pick_t rfl rfl) ?_
                  refine TL_chain_end rfl ?_ (by repeat (first | exact sub_refl | refine sub_ext rfl ?_)) GivesTo.g
                  exact congrArg Value.bool (decide_eq_true (by rw [cmp_gtB]; unfold ltB; omega)).symm
                · refine TL_grun rfl rfl ?_
                  refine TL_y rfl rfl (Y_field_addr rfl) ?_
                  refine TL_grun rfl rfl ?_
                  refine TL_y rfl rfl (Y_load rfl rfl) ?_
                  refine TL_grun rfl rfl ?_
                  refine TL_y rfl rfl (Y_field_addr rfl) ?_
                  refine TL_grun rfl rfl ?_
                  refine TL_y rfl rfl (Y_load rfl rfl) ?_
                  refine TL_grun rfl rfl ?_
                  refine TL_y rfl rfl (Y_eq rfl rfl) ?_
                  refine TL_grun rfl rfl ?_
                  refine TL_y rfl rfl (Y_move rfl) ?_
                  refine TL_splitd 109 rfl (fun h109 => ?_) (fun h109 => ?_)
                  · refine TL_grun rfl rfl ?_
                    refine TL_y rfl rfl (Y_field_addr rfl) ?_
                    refine TL_grun rfl rfl ?_
                    refine TL_y rfl rfl (Y_load rfl rfl) ?_
                    refine TL_grun rfl rfl ?_
                    refine TL_y rfl rfl (Y_field_addr rfl) ?_
                    refine TL_grun rfl rfl ?_
                    refine TL_y rfl rfl (Y_load rfl rfl) ?_
                    refine TL_grun rfl rfl ?_
                    refine TL_y rfl rfl (Y_gt rfl rfl) ?_
                    refine TL_grun rfl rfl ?_
                    refine TL_y rfl rfl (Y_pick_t rfl rfl) ?_
                    refine TL_y rfl rfl (Y_pick_f rfl rfl) ?_
                    refine TL_chain_end rfl ?_ (by repeat (first | exact sub_refl | refine sub_ext rfl ?_)) GivesTo.g
                    exact congrArg Value.bool (decide_eq_decide.2 (by rw [cmp_gtB]; unfold ltB; omega))
                  · refine TL_gskip rfl rfl rfl rfl ?_
                    refine TL_gskip rfl rfl rfl rfl ?_
                    refine TL_gskip rfl rfl rfl rfl ?_
                    refine TL_gskip rfl rfl rfl rfl ?_
                    refine TL_gskip rfl rfl rfl rfl ?_
                    refine TL_grun rfl rfl ?_
                    refine TL_y rfl rfl (Y_pick_f rfl rfl) ?_
                    refine TL_y rfl rfl (Y_pick_f rfl rfl) ?_
                    refine TL_chain_end rfl ?_ (by repeat (first | exact sub_refl | refine sub_ext rfl ?_)) GivesTo.g
                    exact congrArg Value.bool (decide_eq_false (by rw [cmp_gtB]; unfold ltB; omega)).symm
              refine TL_nil ?_
              refine T_if rfl (fun h116 => ?_) (fun h116 => ?_)
              · refine T_region_last ?_
                refine TL_y rfl rfl (Y_move rfl) ?_
                refine TL_y rfl rfl (Y_assign rfl) ?_
                refine TL_nil ?_
                refine inB_normal ?_
                refine thenS_normal ?_
                refine T_region_last ?_
                refine TL_y rfl rfl (Y_move rfl) ?_
                refine TL_y rfl rfl (Y_add rfl rfl (by omega)) ?_
                refine TL_name 73 (v' := .int .i64 ((i + 1 : Nat) : Int)) rfl (rfl) ?_
                refine TL_y rfl rfl (Y_assign rfl) ?_
                refine TL_nil ?_
                refine thenS_normal ?_
                exact ⟨⟨i + 1, (i : Int)⟩, ⟨by simp only; omega, .inr ⟨i, v, rfl, hv, by rw [hnx, better_more (Classical.not_not.1 h80) (by rw [hp]; rfl) (by rw [hp]; exact h116)]⟩⟩, by simp only; omega, holds_to (sub_cons rfl (sub_cons rfl (sub_cons rfl (sub_cons rfl (sub_cons rfl (sub_nil)))))) GivesTo.g⟩
              · refine T_skip ?_
                refine inB_normal ?_
                refine thenS_normal ?_
                refine T_region_last ?_
                refine TL_y rfl rfl (Y_move rfl) ?_
                refine TL_y rfl rfl (Y_add rfl rfl (by omega)) ?_
                refine TL_name 73 (v' := .int .i64 ((i + 1 : Nat) : Int)) rfl (rfl) ?_
                refine TL_y rfl rfl (Y_assign rfl) ?_
                refine TL_nil ?_
                refine thenS_normal ?_
                exact ⟨⟨i + 1, (j : Int)⟩, ⟨by simp only; omega, .inr ⟨j, u, rfl, hu, by rw [hnx, better_less (Classical.not_not.1 h80) (by rw [hp]; rfl) (by rw [hp]; exact h116), hp]⟩⟩, by simp only; omega, holds_to (sub_cons rfl (sub_cons rfl (sub_cons rfl (sub_cons rfl (sub_cons rfl (sub_nil)))))) GivesTo.g⟩
        · refine T_exit ?_
          refine thenS_exit ?_
          refine thenS_exit ?_
          refine inB_hit ?_
          refine thenS_normal ?_
          rcases hri with ⟨rfl, hp⟩ | ⟨j, u, rfl, hu, hp⟩
          · dsimp only at hp
            rw [List.take_of_length_le (show (votes ++ more).length ≤ i by omega)] at hp
            refine T_region ?_
            refine TL_y rfl rfl (Y_move rfl) ?_
            refine TL_pullk b22 ?_
            refine TL_call rfl rfl (prFlights_spec) ?_
            rintro _ _ ⟨A119, c119, rfl, rfl⟩
            refine TL_freeze_osl ?_
            refine TL_y rfl rfl (Y_assign rfl) ?_
            refine TL_nil ?_
            refine T_seq ?_
            refine T_region ?_
            refine TL_y rfl rfl (Y_assign rfl) ?_
            refine TL_nil ?_
            refine T_block ?_
            refine T_loopK (σ := Nat) [2, 14, 15, 19] (fun i => i ≤ (flightsV (kp3 votes more)).length ∧ ∀ u ∈ (flightsV (kp3 votes more)).take i, u.slot ≠ slot) (fun i kv => (20, .int .i64 (i : Int)) :: kv) (fun i => sl votedR A119 c119 (flightsV (kp3 votes more)) :: sl votedR A67 c67 (votes ++ more) :: L) (fun i => (flightsV (kp3 votes more)).length - i) (0) rfl (⟨Nat.zero_le _, by simp⟩) (GivesTo.g) (sub_cons rfl (sub_cons rfl (sub_cons rfl (sub_cons rfl (sub_cons rfl (sub_nil)))))) ?_
            rintro i ⟨hil2, hno⟩
            refine SlN.lens (sln (A := A119) (c := c119)) fun hlx => ?_
            simp only [maxEl] at hlx
            refine T_seq ?_
            refine T_region ?_
            refine TL_y rfl rfl (Y_move rfl) ?_
            refine TL_y rfl rfl (Y_move rfl) ?_
            refine TL_y rfl rfl (Y_len rfl) ?_
            refine TL_y rfl rfl (Y_lt rfl rfl) ?_
            refine TL_nil ?_
            refine T_if rfl (fun h123 => ?_) (fun h123 => ?_)
            · refine T_skip ?_
              refine thenS_normal ?_
              refine T_seq ?_
              refine T_block ?_
              obtain ⟨f, hf⟩ : ∃ f, (flightsV (kp3 votes more))[i]? = some f := ⟨_, List.getElem?_eq_getElem (by omega)⟩
              have hfe := hKf.en f (List.mem_of_getElem? hf)
              refine T_addr_n (sln (A := A119) (c := c119)) hf fun bz oz ez => ?_
              subst ez
              refine T_region ?_
              refine TL_y rfl rfl (Y_move rfl) ?_
              refine TL_y rfl rfl (Y_move rfl) ?_
              refine TL_y rfl rfl (Y_index_n (R := votedR) (xs := flightsV (kp3 votes more)) rfl rfl rfl hf) ?_
              refine TL_y rfl rfl (Y_field_addr2 rfl) ?_
              refine TL_y rfl rfl (Y_load_nx (xs := flightsV (kp3 votes more)) (u := f) (v := .int .i64 f.slot) rfl (sln (c := c119)) hf (fun _ ↦ rfl)) ?_
              refine TL_y rfl rfl (Y_move rfl) ?_
              refine TL_y rfl rfl (Y_eq rfl rfl) ?_
              refine TL_nil ?_
              refine T_if rfl (fun h132 => ?_) (fun h132 => ?_)
              · have hen : f.en.noop = true := by rw [hfe, h132]; unfold keptE; rw [hp]; rfl
                refine T_rd [0, 1, 3, 7, 7, 31, 63, 127, 7, 7, 775, 1799, 3847, 8191, 16383, 32767, 65535, 131071, 262143, 524287, 524287, 2097151, 4194303, 8388607, 16777215, 33554431, 67108863, 134217727] (by kernel_rfl) (by decide +kernel) ?_
                refine RD_pair 7 12 (by decide) ?_ ?_
                · refine RD_leaf (sl votedR (some ⟨bz, oz, none⟩) c119 (flightsV (kp3 votes more)) :: []) [0, 1, 3, 7, 7, 31, 63, 127, 7, 7, 775, 1799, 4095, 8191, 16383, 32767, 65535, 131071, 262143, 524287, 524287, 2097151, 4194303, 8388607, 16777215, 33554431, 67108863, 134217727] [] [(0, true), (1, true), (2, true), (3, true), (4, true), (5, true), (6, true), (8, true), (9, true), (10, true), (11, true), (7, false), (12, false), (13, false), (14, true), (15, true), (16, true), (17, true), (18, true), (19, true), (20, true), (21, true), (22, true), (23, true), (24, true), (25, true), (26, true), (27, true)] (by decide +kernel) GivesTo.g ?_
                  refine TF_y rfl rfl (Y_move rfl) ?_
                  refine TF_y rfl rfl (Y_ge rfl rfl) ?_
                  refine TF_name 134 (v' := .bool false) rfl (congrArg Value.bool (decide_eq_false (by omega))) ?_
                  refine TF_y rfl rfl (Y_move rfl) ?_
                  refine TF_gskip rfl rfl rfl rfl rfl ?_
                  refine TF_gskip rfl rfl rfl rfl rfl ?_
                  refine TF_gskip rfl rfl rfl rfl rfl ?_
                  refine TF_gskip rfl rfl rfl rfl rfl ?_
                  refine TF_gskip rfl rfl rfl rfl rfl ?_
                  refine TF_gskip rfl rfl rfl rfl rfl ?_
                  refine TF_gskip rfl rfl rfl rfl rfl ?_
                  refine TF_gskip rfl rfl rfl rfl rfl ?_
                  refine TF_anchor rfl ?_
                  refine TL_gskip rfl rfl rfl rfl ?_
                  refine TF_end GivesTo.g ?_
                  refine TF_anchor rfl ?_
                  refine TL_gskip rfl rfl rfl rfl ?_
                  refine TF_end GivesTo.g ?_
                  refine TF_anchor rfl ?_
                  refine TL_gskip rfl rfl rfl rfl ?_
                  refine TF_end GivesTo.g ?_
                  refine TF_y rfl rfl (Y_pick_f rfl rfl) ?_
                  refine TF_y rfl rfl (Y_move rfl) ?_
                  refine TF_gy rfl rfl rfl rfl (Y_move rfl) ?_
                  refine TF_gy rfl rfl rfl rfl (Y_lt rfl rfl) ?_
                  refine TF_name 150 (v' := .bool true) rfl (congrArg Value.bool (decide_eq_true (by omega))) ?_
                  refine TF_gy rfl rfl rfl rfl (Y_move rfl) ?_
                  refine TF_gy rfl rfl rfl rfl (Y_move rfl) ?_
                  refine TF_gy rfl rfl rfl rfl (Y_move rfl) ?_
                  refine TF_gy rfl rfl rfl rfl (Y_index_n (R := votedR) (xs := flightsV (kp3 votes more)) rfl rfl rfl hf) ?_
                  refine TF_gy rfl rfl rfl rfl (Y_field_addr2 rfl) ?_
                  refine TF_gy rfl rfl rfl rfl (Y_field_addr2 rfl) ?_
                  refine TF_gy rfl rfl rfl rfl (Y_load_nx (xs := flightsV (kp3 votes more)) (u := f) (v := .bool f.en.noop) rfl (sln (c := c119)) hf (fun _ ↦ rfl)) ?_
                  refine TF_name 157 (v' := .bool true) rfl (congrArg Value.bool hen) ?_
                  refine TF_gy rfl rfl rfl rfl (Y_pick_t rfl rfl) ?_
                  refine TF_y rfl rfl (Y_pick_f rfl rfl) ?_
                  refine TF_y rfl rfl (Y_assign rfl) ?_
                  refine TF_nil ?_
                  refine thenS_normal ?_
                  refine T_ret ?_
                  refine inB_ret ?_
                  refine thenS_ret ?_
                  refine thenS_ret ?_
                  refine inB_ret ?_
                  refine thenS_ret ?_
                  exact RetG_1 (.inl rfl) rfl (ResV.tmp rfl) GivesTo.g (⟨rfl, rfl⟩)
                · refine RD_leaf (sl votedR (some ⟨bz, oz, none⟩) c119 (flightsV (kp3 votes more)) :: []) [0, 1, 3, 7, 7, 31, 63, 8063, 7, 7, 775, 1799, 3847, 8191, 16383, 32767, 65535, 131071, 262143, 524287, 524287, 2097151, 4194303, 8388607, 16777215, 33554431, 67108863, 134217727] [] [(0, true), (1, true), (2, true), (3, true), (4, true), (5, true), (6, true), (8, true), (9, true), (10, true), (11, true), (12, false), (7, false), (13, false), (14, true), (15, true), (16, true), (17, true), (18, true), (19, true), (20, true), (21, true), (22, true), (23, true), (24, true), (25, true), (26, true), (27, true)] (by decide +kernel) GivesTo.g ?_
                  refine TF_y rfl rfl (Y_move rfl) ?_
                  refine TF_y rfl rfl (Y_ge rfl rfl) ?_
                  refine TF_name 134 (v' := .bool false) rfl (congrArg Value.bool (decide_eq_false (by omega))) ?_
                  refine TF_y rfl rfl (Y_move rfl) ?_
                  refine TF_gskip rfl rfl rfl rfl rfl ?_
                  refine TF_gskip rfl rfl rfl rfl rfl ?_
                  refine TF_gskip rfl rfl rfl rfl rfl ?_
                  refine TF_gskip rfl rfl rfl rfl rfl ?_
                  refine TF_gskip rfl rfl rfl rfl rfl ?_
                  refine TF_gskip rfl rfl rfl rfl rfl ?_
                  refine TF_gskip rfl rfl rfl rfl rfl ?_
                  refine TF_gskip rfl rfl rfl rfl rfl ?_
                  refine TF_anchor rfl ?_
                  refine TL_gskip rfl rfl rfl rfl ?_
                  refine TF_end GivesTo.g ?_
                  refine TF_anchor rfl ?_
                  refine TL_gskip rfl rfl rfl rfl ?_
                  refine TF_end GivesTo.g ?_
                  refine TF_anchor rfl ?_
                  refine TL_gskip rfl rfl rfl rfl ?_
                  refine TF_end GivesTo.g ?_
                  refine TF_y rfl rfl (Y_pick_f rfl rfl) ?_
                  refine TF_y rfl rfl (Y_move rfl) ?_
                  refine TF_gy rfl rfl rfl rfl (Y_move rfl) ?_
                  refine TF_gy rfl rfl rfl rfl (Y_lt rfl rfl) ?_
                  refine TF_name 150 (v' := .bool true) rfl (congrArg Value.bool (decide_eq_true (by omega))) ?_
                  refine TF_gy rfl rfl rfl rfl (Y_move rfl) ?_
                  refine TF_gy rfl rfl rfl rfl (Y_move rfl) ?_
                  refine TF_gy rfl rfl rfl rfl (Y_move rfl) ?_
                  refine TF_gy rfl rfl rfl rfl (Y_index_n (R := votedR) (xs := flightsV (kp3 votes more)) rfl rfl rfl hf) ?_
                  refine TF_gy rfl rfl rfl rfl (Y_field_addr2 rfl) ?_
                  refine TF_gy rfl rfl rfl rfl (Y_field_addr2 rfl) ?_
                  refine TF_gy rfl rfl rfl rfl (Y_load_nx (xs := flightsV (kp3 votes more)) (u := f) (v := .bool f.en.noop) rfl (sln (c := c119)) hf (fun _ ↦ rfl)) ?_
                  refine TF_name 157 (v' := .bool true) rfl (congrArg Value.bool hen) ?_
                  refine TF_gy rfl rfl rfl rfl (Y_pick_t rfl rfl) ?_
                  refine TF_y rfl rfl (Y_pick_f rfl rfl) ?_
                  refine TF_y rfl rfl (Y_assign rfl) ?_
                  refine TF_nil ?_
                  refine thenS_normal ?_
                  refine T_ret ?_
                  refine inB_ret ?_
                  refine thenS_ret ?_
                  refine thenS_ret ?_
                  refine inB_ret ?_
                  refine thenS_ret ?_
                  exact RetG_1 (.inl rfl) rfl (ResV.tmp rfl) GivesTo.g (⟨rfl, rfl⟩)
              · refine T_skip ?_
                refine inB_normal ?_
                refine thenS_normal ?_
                refine T_region_last ?_
                refine TL_y rfl rfl (Y_move rfl) ?_
                refine TL_y rfl rfl (Y_add rfl rfl (by omega)) ?_
                refine TL_name 125 (v' := .int .i64 ((i + 1 : Nat) : Int)) rfl (rfl) ?_
                refine TL_y rfl rfl (Y_assign rfl) ?_
                refine TL_nil ?_
                refine thenS_normal ?_
                exact ⟨i + 1, ⟨by omega, by rw [takeAt hf]; intro q hq; rcases List.mem_append.1 hq with h | h; (exact hno q h); (rw [List.mem_singleton.1 h]; exact h132)⟩, by omega, holds_to (sub_cons rfl (sub_cons rfl (sub_cons rfl (sub_cons rfl (sub_cons rfl (sub_nil)))))) GivesTo.g⟩
            · refine T_exit ?_
              refine thenS_exit ?_
              refine thenS_exit ?_
              refine inB_hit ?_
              refine thenS_normal ?_
              refine T_region ?_
              refine TL_y rfl rfl (Y_move rfl) ?_
              refine TL_y rfl rfl (Y_lt rfl rfl) ?_
              refine TL_name 161 (v' := .bool true) rfl (congrArg Value.bool (decide_eq_true (by omega))) ?_
              refine TL_y rfl rfl (Y_move rfl) ?_
              refine TL_gskip rfl rfl rfl rfl ?_
              refine TL_gskip rfl rfl rfl rfl ?_
              refine TL_y rfl rfl (Y_pick_t rfl rfl) ?_
              refine TL_y rfl rfl (Y_assign rfl) ?_
              refine TL_nil ?_
              refine T_ret ?_
              exact RetG_1 (.inl rfl) rfl (ResV.tmp rfl) GivesTo.g (⟨rfl, rfl⟩)
          · dsimp only at hp
            rw [List.take_of_length_le (show (votes ++ more).length ≤ i by omega)] at hp
            refine T_region ?_
            refine TL_y rfl rfl (Y_move rfl) ?_
            refine TL_pullk b22 ?_
            refine TL_call rfl rfl (prFlights_spec) ?_
            rintro _ _ ⟨A119, c119, rfl, rfl⟩
            refine TL_freeze_osl ?_
            refine TL_y rfl rfl (Y_assign rfl) ?_
            refine TL_nil ?_
            refine T_seq ?_
            refine T_region ?_
            refine TL_y rfl rfl (Y_assign rfl) ?_
            refine TL_nil ?_
            refine T_block ?_
            refine T_loopK (σ := Nat) [2, 14, 15, 19] (fun i => i ≤ (flightsV (kp3 votes more)).length ∧ ∀ u ∈ (flightsV (kp3 votes more)).take i, u.slot ≠ slot) (fun i kv => (20, .int .i64 (i : Int)) :: kv) (fun i => sl votedR A119 c119 (flightsV (kp3 votes more)) :: sl votedR A67 c67 (votes ++ more) :: L) (fun i => (flightsV (kp3 votes more)).length - i) (0) rfl (⟨Nat.zero_le _, by simp⟩) (GivesTo.g) (sub_cons rfl (sub_cons rfl (sub_cons rfl (sub_cons rfl (sub_cons rfl (sub_nil)))))) ?_
            rintro i ⟨hil2, hno⟩
            refine SlN.lens (sln (A := A119) (c := c119)) fun hlx => ?_
            simp only [maxEl] at hlx
            refine T_seq ?_
            refine T_region ?_
            refine TL_y rfl rfl (Y_move rfl) ?_
            refine TL_y rfl rfl (Y_move rfl) ?_
            refine TL_y rfl rfl (Y_len rfl) ?_
            refine TL_y rfl rfl (Y_lt rfl rfl) ?_
            refine TL_nil ?_
            refine T_if rfl (fun h123 => ?_) (fun h123 => ?_)
            · refine T_skip ?_
              refine thenS_normal ?_
              refine T_seq ?_
              refine T_block ?_
              obtain ⟨f, hf⟩ : ∃ f, (flightsV (kp3 votes more))[i]? = some f := ⟨_, List.getElem?_eq_getElem (by omega)⟩
              have hfe := hKf.en f (List.mem_of_getElem? hf)
              refine T_addr_n (sln (A := A119) (c := c119)) hf fun bz oz ez => ?_
              subst ez
              refine T_region ?_
              refine TL_y rfl rfl (Y_move rfl) ?_
              refine TL_y rfl rfl (Y_move rfl) ?_
              refine TL_y rfl rfl (Y_index_n (R := votedR) (xs := flightsV (kp3 votes more)) rfl rfl rfl hf) ?_
              refine TL_y rfl rfl (Y_field_addr2 rfl) ?_
              refine TL_y rfl rfl (Y_load_nx (xs := flightsV (kp3 votes more)) (u := f) (v := .int .i64 f.slot) rfl (sln (c := c119)) hf (fun _ ↦ rfl)) ?_
              refine TL_y rfl rfl (Y_move rfl) ?_
              refine TL_y rfl rfl (Y_eq rfl rfl) ?_
              refine TL_nil ?_
              refine T_if rfl (fun h132 => ?_) (fun h132 => ?_)
              · have hen : f.en = u.en := (by rw [hfe, h132]; unfold keptE; rw [hp]; rfl)
                refine T_addr_n (sln (A := A67) (c := c67)) hu fun bl ol el => ?_
                subst el
                refine T_rd [0, 1, 3, 7, 7, 31, 63, 127, 7, 7, 775, 1799, 3847, 8191, 16383, 32767, 65535, 131071, 262143, 524287, 524287, 2097151, 4194303, 8388607, 16777215, 33554431, 67108863, 134217727] (by kernel_rfl) (by decide +kernel) ?_
                refine RD_pair 7 12 (by decide) ?_ ?_
                · refine RD_leaf (sl votedR (some ⟨bz, oz, none⟩) c119 (flightsV (kp3 votes more)) :: sl votedR (some ⟨bl, ol, none⟩) c67 (votes ++ more) :: []) [0, 1, 3, 7, 7, 31, 63, 127, 7, 7, 775, 1799, 4095, 8191, 16383, 32767, 65535, 131071, 262143, 524287, 524287, 2097151, 4194303, 8388607, 16777215, 33554431, 67108863, 134217727] [] [(0, true), (1, true), (2, true), (3, true), (4, true), (5, true), (6, true), (8, true), (9, true), (10, true), (11, true), (7, false), (12, false), (13, false), (14, true), (15, true), (16, true), (17, true), (18, true), (19, true), (20, true), (21, true), (22, true), (23, true), (24, true), (25, true), (26, true), (27, true)] (by decide +kernel) GivesTo.g ?_
                  refine TF_y rfl rfl (Y_move rfl) ?_
                  refine TF_y rfl rfl (Y_ge rfl rfl) ?_
                  refine TF_name 134 (v' := .bool true) rfl (congrArg Value.bool (decide_eq_true (by omega))) ?_
                  refine TF_y rfl rfl (Y_move rfl) ?_
                  refine TF_gy rfl rfl rfl rfl (Y_move rfl) ?_
                  refine TF_gy rfl rfl rfl rfl (Y_move rfl) ?_
                  refine TF_gy rfl rfl rfl rfl (Y_index_n (R := votedR) (xs := flightsV (kp3 votes more)) rfl rfl rfl hf) ?_
                  refine TF_gy rfl rfl rfl rfl (Y_field_addr2 rfl) ?_
                  refine TF_gy rfl rfl rfl rfl (Y_move rfl) ?_
                  refine TF_gy rfl rfl rfl rfl (Y_move rfl) ?_
                  refine TF_gy rfl rfl rfl rfl (Y_index_n (R := votedR) (xs := votes ++ more) rfl rfl rfl hu) ?_
                  refine TF_gy rfl rfl rfl rfl (Y_field_addr2 rfl) ?_
                  refine TF_anchor rfl ?_
                  refine TL_grun rfl rfl ?_
                  refine TL_load_nx (xs := flightsV (kp3 votes more)) rfl rfl (sln (c := c119)) hf (fun _ => rfl) ?_
                  intro p140 ok140
                  simp only [List.cons_append, List.nil_append]
                  refine TF_end GivesTo.g ?_
                  refine TF_anchor rfl ?_
                  refine TL_grun rfl rfl ?_
                  refine TL_load_nx (xs := votes ++ more) rfl rfl (sln (c := c67)) hu (fun _ => rfl) ?_
                  intro p145 ok145
                  simp only [List.cons_append, List.nil_append]
                  refine TF_end GivesTo.g ?_
                  refine TF_anchor rfl ?_
                  refine TL_grun rfl rfl ?_
                  refine TL_call rfl rfl (sameEntry_spec f.en u.en (A := p140.1) (c := p140.2) (B := p145.1) (d := p145.2) sln sln) ?_
                  rintro _ _ ⟨rfl, rfl⟩
                  refine TL_name 146 (v' := .bool true) rfl (congrArg Value.bool (decide_eq_true hen)) ?_
                  refine TF_end GivesTo.g ?_
                  refine TF_y rfl rfl (Y_pick_t rfl rfl) ?_
                  refine TF_y rfl rfl (Y_move rfl) ?_
                  refine TF_gskip rfl rfl rfl rfl rfl ?_
                  refine TF_gskip rfl rfl rfl rfl rfl ?_
                  refine TF_gskip rfl rfl rfl rfl rfl ?_
                  refine TF_gskip_u rfl rfl rfl rfl ?_
                  refine TF_gskip_u rfl rfl rfl rfl ?_
                  refine TF_gskip_u rfl rfl rfl rfl ?_
                  refine TF_gskip_u rfl rfl rfl rfl ?_
                  refine TF_gskip_u rfl rfl rfl rfl ?_
                  refine TF_gskip_u rfl rfl rfl rfl ?_
                  refine TF_gskip rfl rfl rfl rfl rfl ?_
                  refine TF_y rfl rfl (Y_pick_t rfl rfl) ?_
                  refine TF_y rfl rfl (Y_assign rfl) ?_
                  refine TF_nil ?_
                  refine thenS_normal ?_
                  refine T_ret ?_
                  refine inB_ret ?_
                  refine thenS_ret ?_
                  refine thenS_ret ?_
                  refine inB_ret ?_
                  refine thenS_ret ?_
                  exact RetG_1 (.inl rfl) rfl (ResV.tmp rfl) GivesTo.g (⟨rfl, rfl⟩)
                · refine RD_leaf (sl votedR (some ⟨bz, oz, none⟩) c119 (flightsV (kp3 votes more)) :: sl votedR (some ⟨bl, ol, none⟩) c67 (votes ++ more) :: []) [0, 1, 3, 7, 7, 31, 63, 8063, 7, 7, 775, 1799, 3847, 8191, 16383, 32767, 65535, 131071, 262143, 524287, 524287, 2097151, 4194303, 8388607, 16777215, 33554431, 67108863, 134217727] [] [(0, true), (1, true), (2, true), (3, true), (4, true), (5, true), (6, true), (8, true), (9, true), (10, true), (11, true), (12, false), (7, false), (13, false), (14, true), (15, true), (16, true), (17, true), (18, true), (19, true), (20, true), (21, true), (22, true), (23, true), (24, true), (25, true), (26, true), (27, true)] (by decide +kernel) GivesTo.g ?_
                  refine TF_y rfl rfl (Y_move rfl) ?_
                  refine TF_y rfl rfl (Y_ge rfl rfl) ?_
                  refine TF_name 134 (v' := .bool true) rfl (congrArg Value.bool (decide_eq_true (by omega))) ?_
                  refine TF_y rfl rfl (Y_move rfl) ?_
                  refine TF_gy rfl rfl rfl rfl (Y_move rfl) ?_
                  refine TF_gy rfl rfl rfl rfl (Y_move rfl) ?_
                  refine TF_gy rfl rfl rfl rfl (Y_index_n (R := votedR) (xs := flightsV (kp3 votes more)) rfl rfl rfl hf) ?_
                  refine TF_gy rfl rfl rfl rfl (Y_field_addr2 rfl) ?_
                  refine TF_gy rfl rfl rfl rfl (Y_move rfl) ?_
                  refine TF_gy rfl rfl rfl rfl (Y_move rfl) ?_
                  refine TF_gy rfl rfl rfl rfl (Y_index_n (R := votedR) (xs := votes ++ more) rfl rfl rfl hu) ?_
                  refine TF_gy rfl rfl rfl rfl (Y_field_addr2 rfl) ?_
                  refine TF_anchor rfl ?_
                  refine TL_grun rfl rfl ?_
                  refine TL_load_nx (xs := votes ++ more) rfl rfl (sln (c := c67)) hu (fun _ => rfl) ?_
                  intro p145 ok145
                  simp only [List.cons_append, List.nil_append]
                  refine TF_end GivesTo.g ?_
                  refine TF_anchor rfl ?_
                  refine TL_grun rfl rfl ?_
                  refine TL_load_nx (xs := flightsV (kp3 votes more)) rfl rfl (sln (c := c119)) hf (fun _ => rfl) ?_
                  intro p140 ok140
                  simp only [List.cons_append, List.nil_append]
                  refine TF_end GivesTo.g ?_
                  refine TF_anchor rfl ?_
                  refine TL_grun rfl rfl ?_
                  refine TL_call rfl rfl (sameEntry_spec f.en u.en (A := p140.1) (c := p140.2) (B := p145.1) (d := p145.2) sln sln) ?_
                  rintro _ _ ⟨rfl, rfl⟩
                  refine TL_name 146 (v' := .bool true) rfl (congrArg Value.bool (decide_eq_true hen)) ?_
                  refine TF_end GivesTo.g ?_
                  refine TF_y rfl rfl (Y_pick_t rfl rfl) ?_
                  refine TF_y rfl rfl (Y_move rfl) ?_
                  refine TF_gskip rfl rfl rfl rfl rfl ?_
                  refine TF_gskip rfl rfl rfl rfl rfl ?_
                  refine TF_gskip rfl rfl rfl rfl rfl ?_
                  refine TF_gskip_u rfl rfl rfl rfl ?_
                  refine TF_gskip_u rfl rfl rfl rfl ?_
                  refine TF_gskip_u rfl rfl rfl rfl ?_
                  refine TF_gskip_u rfl rfl rfl rfl ?_
                  refine TF_gskip_u rfl rfl rfl rfl ?_
                  refine TF_gskip_u rfl rfl rfl rfl ?_
                  refine TF_gskip rfl rfl rfl rfl rfl ?_
                  refine TF_y rfl rfl (Y_pick_t rfl rfl) ?_
                  refine TF_y rfl rfl (Y_assign rfl) ?_
                  refine TF_nil ?_
                  refine thenS_normal ?_
                  refine T_ret ?_
                  refine inB_ret ?_
                  refine thenS_ret ?_
                  refine thenS_ret ?_
                  refine inB_ret ?_
                  refine thenS_ret ?_
                  exact RetG_1 (.inl rfl) rfl (ResV.tmp rfl) GivesTo.g (⟨rfl, rfl⟩)
              · refine T_skip ?_
                refine inB_normal ?_
                refine thenS_normal ?_
                refine T_region_last ?_
                refine TL_y rfl rfl (Y_move rfl) ?_
                refine TL_y rfl rfl (Y_add rfl rfl (by omega)) ?_
                refine TL_name 125 (v' := .int .i64 ((i + 1 : Nat) : Int)) rfl (rfl) ?_
                refine TL_y rfl rfl (Y_assign rfl) ?_
                refine TL_nil ?_
                refine thenS_normal ?_
                exact ⟨i + 1, ⟨by omega, by rw [takeAt hf]; intro q hq; rcases List.mem_append.1 hq with h | h; (exact hno q h); (rw [List.mem_singleton.1 h]; exact h132)⟩, by omega, holds_to (sub_cons rfl (sub_cons rfl (sub_cons rfl (sub_cons rfl (sub_cons rfl (sub_nil)))))) GivesTo.g⟩
            · refine T_exit ?_
              refine thenS_exit ?_
              refine thenS_exit ?_
              refine inB_hit ?_
              refine thenS_normal ?_
              refine T_region ?_
              refine TL_y rfl rfl (Y_move rfl) ?_
              refine TL_y rfl rfl (Y_lt rfl rfl) ?_
              refine TL_name 161 (v' := .bool false) rfl (congrArg Value.bool (decide_eq_false (by omega))) ?_
              refine TL_y rfl rfl (Y_move rfl) ?_
              refine TL_grun rfl rfl ?_
              refine TL_y rfl rfl (Y_move rfl) ?_
              refine TL_grun rfl rfl ?_
              refine TL_y rfl rfl (Y_lt rfl rfl) ?_
              refine TL_name 164 (v' := .bool true) rfl (congrArg Value.bool (decide_eq_true (by exfalso; rw [List.take_of_length_le (show (flightsV (kp3 votes more)).length ≤ i by omega)] at hno; have hu1 := pickV_some hp; have hu2 := hin u hu1.1; obtain ⟨f, hf, hs⟩ := hKf.all u.slot hu2.1 hu2.2; exact hno f hf (hs.trans hu1.2.1)))) ?_
              refine TL_y rfl rfl (Y_pick_f rfl rfl) ?_
              refine TL_y rfl rfl (Y_assign rfl) ?_
              refine TL_nil ?_
              refine T_ret ?_
              exact RetG_1 (.inl rfl) rfl (ResV.tmp rfl) GivesTo.g (⟨rfl, rfl⟩)
    · refine RD_leaf (pr b22 kp1 :: cells b9 [.bool true, .string ⟨#[]⟩, .string ⟨#[]⟩, .int .i64 0, .slice none 0 0] 27 :: []) [0, 33, 0, 0, 47, 0, 63] [] [(0, true), (2, true), (3, true), (5, false), (1, false), (4, true), (6, false)] (by decide +kernel) GivesTo.g ?_
      refine TF_y rfl rfl (Y_move rfl) ?_
      refine TF_y rfl rfl (Y_load_agg rfl rfl) ?_
      refine TF_y rfl rfl (Y_move rfl) ?_
      refine TF_anchor rfl ?_
      refine TL_alloc rfl rfl ?_
      intro b13
      refine TF_end GivesTo.g ?_
      refine TF_anchor rfl ?_
      refine TL_pullk b22 ?_
      refine TL_call rfl rfl (prBallot_spec) ?_
      rintro _ _ ⟨rfl, rfl⟩
      refine TF_end GivesTo.g ?_
      refine TF_y rfl rfl (Y_build rfl rfl) ?_
      refine TF_anchor rfl ?_
      refine TL_store rfl rfl rfl rfl rfl rfl ?_
      refine TF_end GivesTo.g ?_
      refine TF_nil ?_
      refine thenS_normal ?_
      refine T_region ?_
      refine TL_y rfl rfl (Y_move rfl) ?_
      refine TL_y rfl rfl (Y_load_agg rfl rfl) ?_
      refine TL_pullk b22 ?_
      refine TL_call rfl rfl (prOn_spec (p := kp1) (kpA votes) ⟨(none, 0), (A, c), (none, 0), (none, 0)⟩ (kpA_ok votes) ⟨slnil, slk, slnil, slnil⟩ (show cSeal noopE.order + cVoteds votes + 10 * 0 + 0 + 200 ≤ 140737488355328 from by have : cSeal noopE.order = 60 := rfl; omega)) ?_
      rintro _ _ ⟨A56, c56, B56, d56, rfl, rfl⟩
      refine TL_nil ?_
      refine T_region ?_
      refine TL_y rfl rfl (Y_move rfl) ?_
      refine TL_y rfl rfl (Y_load_agg rfl rfl) ?_
      refine TL_pullk b22 ?_
      refine TL_call rfl rfl (prOn_spec (p := (onP kp1 (kpA votes)).1) (kpB more) ⟨(none, 0), (A2, c2), (none, 0), (none, 0)⟩ (kpB_ok more) ⟨slnil, slk, slnil, slnil⟩ (show cSeal noopE.order + cVoteds more + 10 * 0 + 0 + 200 ≤ 140737488355328 from by have : cSeal noopE.order = 60 := rfl; omega)) ?_
      rintro _ _ ⟨A59, c59, B59, d59, rfl, rfl⟩
      rw [show (onP (onP kp1 (kpA votes)).1 (kpB more)).1 = kp3 votes more from rfl]
      refine TL_nil ?_
      refine T_seq ?_
      refine T_region ?_
      refine TL_y rfl rfl (Y_move rfl) ?_
      refine TL_pullk b22 ?_
      refine TL_call rfl rfl (prPhase_spec) ?_
      rintro _ _ ⟨rfl, rfl⟩
      refine TL_y rfl rfl (Y_ne rfl rfl) ?_
      refine TL_nil ?_
      refine T_if rfl (fun h62 => ?_) (fun h62 => ?_)
      · refine T_region ?_
        refine TL_y rfl rfl (Y_assign rfl) ?_
        refine TL_nil ?_
        refine T_ret ?_
        refine thenS_ret ?_
        exact RetG_1 (.inl rfl) rfl (ResV.tmp rfl) GivesTo.g (⟨rfl, rfl⟩)
      · refine T_skip ?_
        refine thenS_normal ?_
        obtain ⟨q, k, hqF, hqf, hin, hP⟩ := kp_lead (Classical.not_not.1 h62)
        have hKf := kf_of hqF hqf (votes ++ more) k
        rw [← hP] at hKf
        refine T_region ?_
        refine TL_build_slice rfl rfl rfl rfl rfl rfl ?_
        intro b63
        refine TL_osl (k := 0) votedR [] (Knows.const fun M => rfl) rfl (by simp) ?_
        refine TL_name 63 (v' := .slice (some ⟨b63, 0, none⟩) ([] : List VotedD).length 0) rfl rfl ?_
        refine TL_y rfl rfl (Y_move rfl) ?_
        refine TL_append rfl rfl rfl rfl rfl slk (by simp only [List.length_nil]; omega) ?_
        intro A65 c65
        rw [List.nil_append]
        refine TL_y rfl rfl (Y_move rfl) ?_
        refine TL_append rfl rfl rfl rfl rfl slk (by omega) ?_
        intro A67 c67
        refine TL_freeze_osl ?_
        refine TL_y rfl rfl (Y_assign rfl) ?_
        refine TL_nil ?_
        refine T_region ?_
        refine TL_y rfl rfl (Y_assign rfl) ?_
        refine TL_nil ?_
        refine T_seq ?_
        refine T_region ?_
        refine TL_y rfl rfl (Y_assign rfl) ?_
        refine TL_nil ?_
        refine T_block ?_
        refine T_loopK (σ := RpSt) [2, 7, 14] (fun g => g.i ≤ (votes ++ more).length ∧ RpI (votes ++ more) slot g) (fun g kv => (16, .int .i64 (g.i : Int)) :: (15, .int .i64 g.r) :: kv) (fun g => sl votedR A67 c67 (votes ++ more) :: pr b22 (kp3 votes more) :: L) (fun g => (votes ++ more).length - g.i) (⟨0, -1⟩) rfl (⟨Nat.zero_le _, .inl ⟨rfl, rfl⟩⟩) (GivesTo.g) (sub_cons rfl (sub_cons rfl (sub_cons rfl (sub_cons rfl (sub_cons rfl (sub_nil)))))) ?_
        rintro ⟨i, r⟩ ⟨hil, hri⟩
        dsimp only at hil ⊢
        have hlW : (votes ++ more).length = votes.length + more.length := List.length_append
        refine T_seq ?_
        refine T_region ?_
        refine TL_y rfl rfl (Y_move rfl) ?_
        refine TL_y rfl rfl (Y_move rfl) ?_
        refine TL_y rfl rfl (Y_len rfl) ?_
        refine TL_y rfl rfl (Y_lt rfl rfl) ?_
        refine TL_nil ?_
        refine T_if rfl (fun h71 => ?_) (fun h71 => ?_)
        · refine T_skip ?_
          refine thenS_normal ?_
          refine T_seq ?_
          refine T_block ?_
          refine T_seq ?_
          rcases hri with ⟨rfl, hp⟩ | ⟨j, u, rfl, hu, hp⟩
          · obtain ⟨v, hv⟩ : ∃ v, (votes ++ more)[i]? = some v := ⟨_, List.getElem?_eq_getElem (by omega)⟩
            have hnx := pickV_next (slot := slot) hv
            refine T_addr_n (sln (A := A67) (c := c67)) hv fun bl ol el => ?_
            subst el
            dsimp only at hp
            refine T_region ?_
            refine TL_y rfl rfl (Y_move rfl) ?_
            refine TL_y rfl rfl (Y_move rfl) ?_
            refine TL_y rfl rfl (Y_index_n (R := votedR) (xs := votes ++ more) rfl rfl rfl hv) ?_
            refine TL_y rfl rfl (Y_field_addr2 rfl) ?_
            refine TL_y rfl rfl (Y_load_nx (xs := votes ++ more) (u := v) (v := .int .i64 v.slot) rfl (sln (c := c67)) hv (fun _ ↦ rfl)) ?_
            refine TL_y rfl rfl (Y_move rfl) ?_
            refine TL_y rfl rfl (Y_ne rfl rfl) ?_
            refine TL_nil ?_
            refine T_if rfl (fun h80 => ?_) (fun h80 => ?_)
            · refine T_exit ?_
              refine thenS_exit ?_
              refine inB_hit ?_
              refine thenS_normal ?_
              refine T_region_last ?_
              refine TL_y rfl rfl (Y_move rfl) ?_
              refine TL_y rfl rfl (Y_add rfl rfl (by omega)) ?_
              refine TL_name 73 (v' := .int .i64 ((i + 1 : Nat) : Int)) rfl (rfl) ?_
              refine TL_y rfl rfl (Y_assign rfl) ?_
              refine TL_nil ?_
              refine thenS_normal ?_
              exact ⟨⟨i + 1, -1⟩, ⟨by simp only; omega, .inl ⟨rfl, by rw [hnx, better_no h80, hp]⟩⟩, by simp only; omega, holds_to (sub_cons rfl (sub_cons rfl (sub_cons rfl (sub_cons rfl (sub_cons rfl (sub_nil)))))) GivesTo.g⟩
            · refine T_skip ?_
              refine thenS_normal ?_
              refine T_region ?_
              refine TL_y rfl rfl (Y_move rfl) ?_
              refine TL_y rfl rfl (Y_move rfl) ?_
              refine TL_y rfl rfl (Y_index_n (R := votedR) (xs := votes ++ more) rfl rfl rfl hv) ?_
              refine TL_y rfl rfl (Y_field_addr2 rfl) ?_
              refine TL_y rfl rfl (Y_load_nxa (xs := votes ++ more) (u := v) (vs := [.int .i64 v.bal.1, .int .i64 v.bal.2]) rfl (sln (c := c67)) hv (fun _ ↦ rfl)) ?_
              refine TL_y rfl rfl (Y_build rfl rfl) ?_
              refine TL_alloc rfl rfl ?_
              intro b17
              refine TL_alloc rfl rfl ?_
              intro b18
              refine TL_store rfl rfl rfl rfl rfl rfl ?_
              refine TL_store rfl rfl rfl rfl rfl rfl ?_
              refine TL_nil ?_
              refine T_seq ?_
              refine T_region ?_
              refine TL_y rfl rfl (Y_move rfl) ?_
              refine TL_y rfl rfl (Y_ge rfl rfl) ?_
              refine TL_name 88 (v' := .bool false) rfl (congrArg Value.bool (decide_eq_false (by omega))) ?_
              refine TL_nil ?_
              refine T_cond_false rfl ?_
              refine T_skip ?_
              refine thenS_normal ?_
              refine T_region ?_
              refine TL_y rfl rfl (Y_move rfl) ?_
              refine TL_y rfl rfl (Y_lt rfl rfl) ?_
              refine TL_name 95 (v' := .bool true) rfl (congrArg Value.bool (decide_eq_true (by omega))) ?_
              refine TL_y rfl rfl (Y_move rfl) ?_
              refine TL_gskip rfl rfl rfl rfl ?_
              refine TL_gskip rfl rfl rfl rfl ?_
              refine TL_gskip rfl rfl rfl rfl ?_
              refine TL_gskip rfl rfl rfl rfl ?_
              refine TL_gskip rfl rfl rfl rfl ?_
              refine TL_y rfl rfl (Y_pick_t rfl rfl) ?_
              refine TL_y rfl rfl (Y_move rfl) ?_
              refine TL_gskip rfl rfl rfl rfl ?_
              refine TL_gskip rfl rfl rfl rfl ?_
              refine TL_gskip rfl rfl rfl rfl ?_
              refine TL_gskip rfl rfl rfl rfl ?_
              refine TL_gskip rfl rfl rfl rfl ?_
              refine TL_gskip rfl rfl rfl rfl ?_
              refine TL_gskip_u rfl rfl rfl ?_
              refine TL_gskip_u rfl rfl rfl ?_
              refine TL_gskip_u rfl rfl rfl ?_
              refine TL_gskip_u rfl rfl rfl ?_
              refine TL_gskip_u rfl rfl rfl ?_
              refine TL_gskip rfl rfl rfl rfl ?_
              refine TL_y rfl rfl (Y_pick_t rfl rfl) ?_
              refine TL_nil ?_
              refine T_cond_true rfl ?_
              refine T_region_last ?_
              refine TL_y rfl rfl (Y_move rfl) ?_
              refine TL_y rfl rfl (Y_assign rfl) ?_
              refine TL_nil ?_
              refine inB_normal ?_
              refine thenS_normal ?_
              refine T_region_last ?_
              refine TL_y rfl rfl (Y_move rfl) ?_
              refine TL_y rfl rfl (Y_add rfl rfl (by omega)) ?_
              refine TL_name 73 (v' := .int .i64 ((i + 1 : Nat) : Int)) rfl (rfl) ?_
              refine TL_y rfl rfl (Y_assign rfl) ?_
              refine TL_nil ?_
              refine thenS_normal ?_
              exact ⟨⟨i + 1, (i : Int)⟩, ⟨by simp only; omega, .inr ⟨i, v, rfl, hv, by rw [hnx, better_first (Classical.not_not.1 h80) (by rw [hp]; rfl)]⟩⟩, by simp only; omega, holds_to (sub_cons rfl (sub_cons rfl (sub_cons rfl (sub_cons rfl (sub_cons rfl (sub_nil)))))) GivesTo.g⟩
          · obtain ⟨v, hv⟩ : ∃ v, (votes ++ more)[i]? = some v := ⟨_, List.getElem?_eq_getElem (by omega)⟩
            have hnx := pickV_next (slot := slot) hv
            refine T_addr_n (sln (A := A67) (c := c67)) hv fun bl ol el => ?_
            subst el
            dsimp only at hp
            refine T_region ?_
            refine TL_y rfl rfl (Y_move rfl) ?_
            refine TL_y rfl rfl (Y_move rfl) ?_
            refine TL_y rfl rfl (Y_index_n (R := votedR) (xs := votes ++ more) rfl rfl rfl hv) ?_
            refine TL_y rfl rfl (Y_field_addr2 rfl) ?_
            refine TL_y rfl rfl (Y_load_nx (xs := votes ++ more) (u := v) (v := .int .i64 v.slot) rfl (sln (c := c67)) hv (fun _ ↦ rfl)) ?_
            refine TL_y rfl rfl (Y_move rfl) ?_
            refine TL_y rfl rfl (Y_ne rfl rfl) ?_
            refine TL_nil ?_
            refine T_if rfl (fun h80 => ?_) (fun h80 => ?_)
            · refine T_exit ?_
              refine thenS_exit ?_
              refine inB_hit ?_
              refine thenS_normal ?_
              refine T_region_last ?_
              refine TL_y rfl rfl (Y_move rfl) ?_
              refine TL_y rfl rfl (Y_add rfl rfl (by omega)) ?_
              refine TL_name 73 (v' := .int .i64 ((i + 1 : Nat) : Int)) rfl (rfl) ?_
              refine TL_y rfl rfl (Y_assign rfl) ?_
              refine TL_nil ?_
              refine thenS_normal ?_
              exact ⟨⟨i + 1, (j : Int)⟩, ⟨by simp only; omega, .inr ⟨j, u, rfl, hu, by rw [hnx, better_no h80, hp]⟩⟩, by simp only; omega, holds_to (sub_cons rfl (sub_cons rfl (sub_cons rfl (sub_cons rfl (sub_cons rfl (sub_nil)))))) GivesTo.g⟩
            · refine T_skip ?_
              refine thenS_normal ?_
              refine T_region ?_
              refine TL_y rfl rfl (Y_move rfl) ?_
              refine TL_y rfl rfl (Y_move rfl) ?_
              refine TL_y rfl rfl (Y_index_n (R := votedR) (xs := votes ++ more) rfl rfl rfl hv) ?_
              refine TL_y rfl rfl (Y_field_addr2 rfl) ?_
              refine TL_y rfl rfl (Y_load_nxa (xs := votes ++ more) (u := v) (vs := [.int .i64 v.bal.1, .int .i64 v.bal.2]) rfl (sln (c := c67)) hv (fun _ ↦ rfl)) ?_
              refine TL_y rfl rfl (Y_build rfl rfl) ?_
              refine TL_alloc rfl rfl ?_
              intro b17
              refine TL_alloc rfl rfl ?_
              intro b18
              refine TL_store rfl rfl rfl rfl rfl rfl ?_
              refine TL_store rfl rfl rfl rfl rfl rfl ?_
              refine TL_nil ?_
              refine T_seq ?_
              refine T_region ?_
              refine TL_y rfl rfl (Y_move rfl) ?_
              refine TL_y rfl rfl (Y_ge rfl rfl) ?_
              refine TL_name 88 (v' := .bool true) rfl (congrArg Value.bool (decide_eq_true (by omega))) ?_
              refine TL_nil ?_
              refine T_cond_true rfl ?_
              refine T_region_last ?_
              refine TL_y rfl rfl (Y_move rfl) ?_
              refine TL_y rfl rfl (Y_move rfl) ?_
              refine TL_y rfl rfl (Y_index_n (R := votedR) (xs := votes ++ more) rfl rfl rfl hu) ?_
              refine TL_y rfl rfl (Y_field_addr2 rfl) ?_
              refine TL_y rfl rfl (Y_load_nxa (xs := votes ++ more) (u := u) (vs := [.int .i64 u.bal.1, .int .i64 u.bal.2]) rfl (sln (c := c67)) hu (fun _ ↦ rfl)) ?_
              refine TL_store rfl rfl rfl rfl rfl rfl ?_
              refine TL_nil ?_
              refine thenS_normal ?_
              refine T_region ?_
              refine TL_y rfl rfl (Y_move rfl) ?_
              refine TL_y rfl rfl (Y_lt rfl rfl) ?_
              refine TL_name 95 (v' := .bool false) rfl (congrArg Value.bool (decide_eq_false (by omega))) ?_
              refine TL_y rfl rfl (Y_move rfl) ?_
              refine TL_both 20 116 ((0 < cmpB v.bal u.bal)) ?_ ?_
              · refine TL_grun rfl rfl ?_
                refine TL_y rfl rfl (Y_field_addr rfl) ?_
                refine TL_grun rfl rfl ?_
                refine TL_y rfl rfl (Y_load rfl rfl) ?_
                refine TL_grun rfl rfl ?_
                refine TL_y rfl rfl (Y_field_addr rfl) ?_
                refine TL_grun rfl rfl ?_
                refine TL_y rfl rfl (Y_load rfl rfl) ?_
                refine TL_grun rfl rfl ?_
                refine TL_y rfl rfl (Y_gt rfl rfl) ?_
                refine TL_y rfl rfl (Y_pick_f rfl rfl) ?_
                refine TL_y rfl rfl (Y_move rfl) ?_
                refine TL_splitd 103 rfl (fun h103 => ?_) (fun h103 => ?_)
                · refine TL_gskip rfl rfl rfl rfl ?_
                  refine TL_gskip rfl rfl rfl rfl ?_
                  refine TL_gskip rfl rfl rfl rfl ?_
                  refine TL_gskip rfl rfl rfl rfl ?_
                  refine TL_gskip rfl rfl rfl rfl ?_
                  refine TL_gskip rfl rfl rfl rfl ?_
                  refine TL_gskip_u rfl rfl rfl ?_
                  refine TL_gskip_u rfl rfl rfl ?_
                  refine TL_gskip_u rfl rfl rfl ?_
                  refine TL_gskip_u rfl rfl rfl ?_
                  refine TL_gskip_u rfl rfl rfl ?_
                  refine TL_gskip rfl rfl rfl rfl ?_
                  refine TL_y rfl rfl (Y_pick_t rfl rfl) ?_
                  refine TL_chain_end rfl ?_ (by repeat (first | exact sub_refl | refine sub_ext rfl ?_)) GivesTo.g
                  exact congrArg Value.bool (decide_eq_true (by rw [cmp_gtB]; unfold ltB; omega)).symm
                · refine TL_grun rfl rfl ?_
                  refine TL_y rfl rfl (Y_field_addr rfl) ?_
                  refine TL_grun rfl rfl ?_
                  refine TL_y rfl rfl (Y_load rfl rfl) ?_
                  refine TL_grun rfl rfl ?_
                  refine TL_y rfl rfl (Y_field_addr rfl) ?_
                  refine TL_grun rfl rfl ?_
                  refine TL_y rfl rfl (Y_load rfl rfl) ?_
                  refine TL_grun rfl rfl ?_
                  refine TL_y rfl rfl (Y_eq rfl rfl) ?_
                  refine TL_grun rfl rfl ?_
                  refine TL_y rfl rfl (Y_move rfl) ?_
                  refine TL_splitd 109 rfl (fun h109 => ?_) (fun h109 => ?_)
                  · refine TL_grun rfl rfl ?_
                    refine TL_y rfl rfl (Y_field_addr rfl) ?_
                    refine TL_grun rfl rfl ?_
                    refine TL_y rfl rfl (Y_load rfl rfl) ?_
                    refine TL_grun rfl rfl ?_
                    refine TL_y rfl rfl (Y_field_addr rfl) ?_
                    refine TL_grun rfl rfl ?_
                    refine TL_y rfl rfl (Y_load rfl rfl) ?_
                    refine TL_grun rfl rfl ?_
                    refine TL_y rfl rfl (Y_gt rfl rfl) ?_
                    refine TL_grun rfl rfl ?_
                    refine TL_y rfl rfl (Y_pick_t rfl rfl) ?_
                    refine TL_y rfl rfl (Y_pick_f rfl rfl) ?_
                    refine TL_chain_end rfl ?_ (by repeat (first | exact sub_refl | refine sub_ext rfl ?_)) GivesTo.g
                    exact congrArg Value.bool (decide_eq_decide.2 (by rw [cmp_gtB]; unfold ltB; omega))
                  · refine TL_gskip rfl rfl rfl rfl ?_
                    refine TL_gskip rfl rfl rfl rfl ?_
                    refine TL_gskip rfl rfl rfl rfl ?_
                    refine TL_gskip rfl rfl rfl rfl ?_
                    refine TL_gskip rfl rfl rfl rfl ?_
                    refine TL_grun rfl rfl ?_
                    refine TL_y rfl rfl (Y_pick_f rfl rfl) ?_
                    refine TL_y rfl rfl (Y_pick_f rfl rfl) ?_
                    refine TL_chain_end rfl ?_ (by repeat (first | exact sub_refl | refine sub_ext rfl ?_)) GivesTo.g
                    exact congrArg Value.bool (decide_eq_false (by rw [cmp_gtB]; unfold ltB; omega)).symm
              refine TL_nil ?_
              refine T_if rfl (fun h116 => ?_) (fun h116 => ?_)
              · refine T_region_last ?_
                refine TL_y rfl rfl (Y_move rfl) ?_
                refine TL_y rfl rfl (Y_assign rfl) ?_
                refine TL_nil ?_
                refine inB_normal ?_
                refine thenS_normal ?_
                refine T_region_last ?_
                refine TL_y rfl rfl (Y_move rfl) ?_
                refine TL_y rfl rfl (Y_add rfl rfl (by omega)) ?_
                refine TL_name 73 (v' := .int .i64 ((i + 1 : Nat) : Int)) rfl (rfl) ?_
                refine TL_y rfl rfl (Y_assign rfl) ?_
                refine TL_nil ?_
                refine thenS_normal ?_
                exact ⟨⟨i + 1, (i : Int)⟩, ⟨by simp only; omega, .inr ⟨i, v, rfl, hv, by rw [hnx, better_more (Classical.not_not.1 h80) (by rw [hp]; rfl) (by rw [hp]; exact h116)]⟩⟩, by simp only; omega, holds_to (sub_cons rfl (sub_cons rfl (sub_cons rfl (sub_cons rfl (sub_cons rfl (sub_nil)))))) GivesTo.g⟩
              · refine T_skip ?_
                refine inB_normal ?_
                refine thenS_normal ?_
                refine T_region_last ?_
                refine TL_y rfl rfl (Y_move rfl) ?_
                refine TL_y rfl rfl (Y_add rfl rfl (by omega)) ?_
                refine TL_name 73 (v' := .int .i64 ((i + 1 : Nat) : Int)) rfl (rfl) ?_
                refine TL_y rfl rfl (Y_assign rfl) ?_
                refine TL_nil ?_
                refine thenS_normal ?_
                exact ⟨⟨i + 1, (j : Int)⟩, ⟨by simp only; omega, .inr ⟨j, u, rfl, hu, by rw [hnx, better_less (Classical.not_not.1 h80) (by rw [hp]; rfl) (by rw [hp]; exact h116), hp]⟩⟩, by simp only; omega, holds_to (sub_cons rfl (sub_cons rfl (sub_cons rfl (sub_cons rfl (sub_cons rfl (sub_nil)))))) GivesTo.g⟩
        · refine T_exit ?_
          refine thenS_exit ?_
          refine thenS_exit ?_
          refine inB_hit ?_
          refine thenS_normal ?_
          rcases hri with ⟨rfl, hp⟩ | ⟨j, u, rfl, hu, hp⟩
          · dsimp only at hp
            rw [List.take_of_length_le (show (votes ++ more).length ≤ i by omega)] at hp
            refine T_region ?_
            refine TL_y rfl rfl (Y_move rfl) ?_
            refine TL_pullk b22 ?_
            refine TL_call rfl rfl (prFlights_spec) ?_
            rintro _ _ ⟨A119, c119, rfl, rfl⟩
            refine TL_freeze_osl ?_
            refine TL_y rfl rfl (Y_assign rfl) ?_
            refine TL_nil ?_
            refine T_seq ?_
            refine T_region ?_
            refine TL_y rfl rfl (Y_assign rfl) ?_
            refine TL_nil ?_
            refine T_block ?_
            refine T_loopK (σ := Nat) [2, 14, 15, 19] (fun i => i ≤ (flightsV (kp3 votes more)).length ∧ ∀ u ∈ (flightsV (kp3 votes more)).take i, u.slot ≠ slot) (fun i kv => (20, .int .i64 (i : Int)) :: kv) (fun i => sl votedR A119 c119 (flightsV (kp3 votes more)) :: sl votedR A67 c67 (votes ++ more) :: L) (fun i => (flightsV (kp3 votes more)).length - i) (0) rfl (⟨Nat.zero_le _, by simp⟩) (GivesTo.g) (sub_cons rfl (sub_cons rfl (sub_cons rfl (sub_cons rfl (sub_cons rfl (sub_nil)))))) ?_
            rintro i ⟨hil2, hno⟩
            refine SlN.lens (sln (A := A119) (c := c119)) fun hlx => ?_
            simp only [maxEl] at hlx
            refine T_seq ?_
            refine T_region ?_
            refine TL_y rfl rfl (Y_move rfl) ?_
            refine TL_y rfl rfl (Y_move rfl) ?_
            refine TL_y rfl rfl (Y_len rfl) ?_
            refine TL_y rfl rfl (Y_lt rfl rfl) ?_
            refine TL_nil ?_
            refine T_if rfl (fun h123 => ?_) (fun h123 => ?_)
            · refine T_skip ?_
              refine thenS_normal ?_
              refine T_seq ?_
              refine T_block ?_
              obtain ⟨f, hf⟩ : ∃ f, (flightsV (kp3 votes more))[i]? = some f := ⟨_, List.getElem?_eq_getElem (by omega)⟩
              have hfe := hKf.en f (List.mem_of_getElem? hf)
              refine T_addr_n (sln (A := A119) (c := c119)) hf fun bz oz ez => ?_
              subst ez
              refine T_region ?_
              refine TL_y rfl rfl (Y_move rfl) ?_
              refine TL_y rfl rfl (Y_move rfl) ?_
              refine TL_y rfl rfl (Y_index_n (R := votedR) (xs := flightsV (kp3 votes more)) rfl rfl rfl hf) ?_
              refine TL_y rfl rfl (Y_field_addr2 rfl) ?_
              refine TL_y rfl rfl (Y_load_nx (xs := flightsV (kp3 votes more)) (u := f) (v := .int .i64 f.slot) rfl (sln (c := c119)) hf (fun _ ↦ rfl)) ?_
              refine TL_y rfl rfl (Y_move rfl) ?_
              refine TL_y rfl rfl (Y_eq rfl rfl) ?_
              refine TL_nil ?_
              refine T_if rfl (fun h132 => ?_) (fun h132 => ?_)
              · have hen : f.en.noop = true := by rw [hfe, h132]; unfold keptE; rw [hp]; rfl
                refine T_rd [0, 1, 3, 7, 7, 31, 63, 127, 7, 7, 775, 1799, 3847, 8191, 16383, 32767, 65535, 131071, 262143, 524287, 524287, 2097151, 4194303, 8388607, 16777215, 33554431, 67108863, 134217727] (by kernel_rfl) (by decide +kernel) ?_
                refine RD_pair 7 12 (by decide) ?_ ?_
                · refine RD_leaf (sl votedR (some ⟨bz, oz, none⟩) c119 (flightsV (kp3 votes more)) :: []) [0, 1, 3, 7, 7, 31, 63, 127, 7, 7, 775, 1799, 4095, 8191, 16383, 32767, 65535, 131071, 262143, 524287, 524287, 2097151, 4194303, 8388607, 16777215, 33554431, 67108863, 134217727] [] [(0, true), (1, true), (2, true), (3, true), (4, true), (5, true), (6, true), (8, true), (9, true), (10, true), (11, true), (7, false), (12, false), (13, false), (14, true), (15, true), (16, true), (17, true), (18, true), (19, true), (20, true), (21, true), (22, true), (23, true), (24, true), (25, true), (26, true), (27, true)] (by decide +kernel) GivesTo.g ?_
                  refine TF_y rfl rfl (Y_move rfl) ?_
                  refine TF_y rfl rfl (Y_ge rfl rfl) ?_
                  refine TF_name 134 (v' := .bool false) rfl (congrArg Value.bool (decide_eq_false (by omega))) ?_
                  refine TF_y rfl rfl (Y_move rfl) ?_
                  refine TF_gskip rfl rfl rfl rfl rfl ?_
                  refine TF_gskip rfl rfl rfl rfl rfl ?_
                  refine TF_gskip rfl rfl rfl rfl rfl ?_
                  refine TF_gskip rfl rfl rfl rfl rfl ?_
                  refine TF_gskip rfl rfl rfl rfl rfl ?_
                  refine TF_gskip rfl rfl rfl rfl rfl ?_
                  refine TF_gskip rfl rfl rfl rfl rfl ?_
                  refine TF_gskip rfl rfl rfl rfl rfl ?_
                  refine TF_anchor rfl ?_
                  refine TL_gskip rfl rfl rfl rfl ?_
                  refine TF_end GivesTo.g ?_
                  refine TF_anchor rfl ?_
                  refine TL_gskip rfl rfl rfl rfl ?_
                  refine TF_end GivesTo.g ?_
                  refine TF_anchor rfl ?_
                  refine TL_gskip rfl rfl rfl rfl ?_
                  refine TF_end GivesTo.g ?_
                  refine TF_y rfl rfl (Y_pick_f rfl rfl) ?_
                  refine TF_y rfl rfl (Y_move rfl) ?_
                  refine TF_gy rfl rfl rfl rfl (Y_move rfl) ?_
                  refine TF_gy rfl rfl rfl rfl (Y_lt rfl rfl) ?_
                  refine TF_name 150 (v' := .bool true) rfl (congrArg Value.bool (decide_eq_true (by omega))) ?_
                  refine TF_gy rfl rfl rfl rfl (Y_move rfl) ?_
                  refine TF_gy rfl rfl rfl rfl (Y_move rfl) ?_
                  refine TF_gy rfl rfl rfl rfl (Y_move rfl) ?_
                  refine TF_gy rfl rfl rfl rfl (Y_index_n (R := votedR) (xs := flightsV (kp3 votes more)) rfl rfl rfl hf) ?_
                  refine TF_gy rfl rfl rfl rfl (Y_field_addr2 rfl) ?_
                  refine TF_gy rfl rfl rfl rfl (Y_field_addr2 rfl) ?_
                  refine TF_gy rfl rfl rfl rfl (Y_load_nx (xs := flightsV (kp3 votes more)) (u := f) (v := .bool f.en.noop) rfl (sln (c := c119)) hf (fun _ ↦ rfl)) ?_
                  refine TF_name 157 (v' := .bool true) rfl (congrArg Value.bool hen) ?_
                  refine TF_gy rfl rfl rfl rfl (Y_pick_t rfl rfl) ?_
                  refine TF_y rfl rfl (Y_pick_f rfl rfl) ?_
                  refine TF_y rfl rfl (Y_assign rfl) ?_
                  refine TF_nil ?_
                  refine thenS_normal ?_
                  refine T_ret ?_
                  refine inB_ret ?_
                  refine thenS_ret ?_
                  refine thenS_ret ?_
                  refine inB_ret ?_
                  refine thenS_ret ?_
                  exact RetG_1 (.inl rfl) rfl (ResV.tmp rfl) GivesTo.g (⟨rfl, rfl⟩)
                · refine RD_leaf (sl votedR (some ⟨bz, oz, none⟩) c119 (flightsV (kp3 votes more)) :: []) [0, 1, 3, 7, 7, 31, 63, 8063, 7, 7, 775, 1799, 3847, 8191, 16383, 32767, 65535, 131071, 262143, 524287, 524287, 2097151, 4194303, 8388607, 16777215, 33554431, 67108863, 134217727] [] [(0, true), (1, true), (2, true), (3, true), (4, true), (5, true), (6, true), (8, true), (9, true), (10, true), (11, true), (12, false), (7, false), (13, false), (14, true), (15, true), (16, true), (17, true), (18, true), (19, true), (20, true), (21, true), (22, true), (23, true), (24, true), (25, true), (26, true), (27, true)] (by decide +kernel) GivesTo.g ?_
                  refine TF_y rfl rfl (Y_move rfl) ?_
                  refine TF_y rfl rfl (Y_ge rfl rfl) ?_
                  refine TF_name 134 (v' := .bool false) rfl (congrArg Value.bool (decide_eq_false (by omega))) ?_
                  refine TF_y rfl rfl (Y_move rfl) ?_
                  refine TF_gskip rfl rfl rfl rfl rfl ?_
                  refine TF_gskip rfl rfl rfl rfl rfl ?_
                  refine TF_gskip rfl rfl rfl rfl rfl ?_
                  refine TF_gskip rfl rfl rfl rfl rfl ?_
                  refine TF_gskip rfl rfl rfl rfl rfl ?_
                  refine TF_gskip rfl rfl rfl rfl rfl ?_
                  refine TF_gskip rfl rfl rfl rfl rfl ?_
                  refine TF_gskip rfl rfl rfl rfl rfl ?_
                  refine TF_anchor rfl ?_
                  refine TL_gskip rfl rfl rfl rfl ?_
                  refine TF_end GivesTo.g ?_
                  refine TF_anchor rfl ?_
                  refine TL_gskip rfl rfl rfl rfl ?_
                  refine TF_end GivesTo.g ?_
                  refine TF_anchor rfl ?_
                  refine TL_gskip rfl rfl rfl rfl ?_
                  refine TF_end GivesTo.g ?_
                  refine TF_y rfl rfl (Y_pick_f rfl rfl) ?_
                  refine TF_y rfl rfl (Y_move rfl) ?_
                  refine TF_gy rfl rfl rfl rfl (Y_move rfl) ?_
                  refine TF_gy rfl rfl rfl rfl (Y_lt rfl rfl) ?_
                  refine TF_name 150 (v' := .bool true) rfl (congrArg Value.bool (decide_eq_true (by omega))) ?_
                  refine TF_gy rfl rfl rfl rfl (Y_move rfl) ?_
                  refine TF_gy rfl rfl rfl rfl (Y_move rfl) ?_
                  refine TF_gy rfl rfl rfl rfl (Y_move rfl) ?_
                  refine TF_gy rfl rfl rfl rfl (Y_index_n (R := votedR) (xs := flightsV (kp3 votes more)) rfl rfl rfl hf) ?_
                  refine TF_gy rfl rfl rfl rfl (Y_field_addr2 rfl) ?_
                  refine TF_gy rfl rfl rfl rfl (Y_field_addr2 rfl) ?_
                  refine TF_gy rfl rfl rfl rfl (Y_load_nx (xs := flightsV (kp3 votes more)) (u := f) (v := .bool f.en.noop) rfl (sln (c := c119)) hf (fun _ ↦ rfl)) ?_
                  refine TF_name 157 (v' := .bool true) rfl (congrArg Value.bool hen) ?_
                  refine TF_gy rfl rfl rfl rfl (Y_pick_t rfl rfl) ?_
                  refine TF_y rfl rfl (Y_pick_f rfl rfl) ?_
                  refine TF_y rfl rfl (Y_assign rfl) ?_
                  refine TF_nil ?_
                  refine thenS_normal ?_
                  refine T_ret ?_
                  refine inB_ret ?_
                  refine thenS_ret ?_
                  refine thenS_ret ?_
                  refine inB_ret ?_
                  refine thenS_ret ?_
                  exact RetG_1 (.inl rfl) rfl (ResV.tmp rfl) GivesTo.g (⟨rfl, rfl⟩)
              · refine T_skip ?_
                refine inB_normal ?_
                refine thenS_normal ?_
                refine T_region_last ?_
                refine TL_y rfl rfl (Y_move rfl) ?_
                refine TL_y rfl rfl (Y_add rfl rfl (by omega)) ?_
                refine TL_name 125 (v' := .int .i64 ((i + 1 : Nat) : Int)) rfl (rfl) ?_
                refine TL_y rfl rfl (Y_assign rfl) ?_
                refine TL_nil ?_
                refine thenS_normal ?_
                exact ⟨i + 1, ⟨by omega, by rw [takeAt hf]; intro q hq; rcases List.mem_append.1 hq with h | h; (exact hno q h); (rw [List.mem_singleton.1 h]; exact h132)⟩, by omega, holds_to (sub_cons rfl (sub_cons rfl (sub_cons rfl (sub_cons rfl (sub_cons rfl (sub_nil)))))) GivesTo.g⟩
            · refine T_exit ?_
              refine thenS_exit ?_
              refine thenS_exit ?_
              refine inB_hit ?_
              refine thenS_normal ?_
              refine T_region ?_
              refine TL_y rfl rfl (Y_move rfl) ?_
              refine TL_y rfl rfl (Y_lt rfl rfl) ?_
              refine TL_name 161 (v' := .bool true) rfl (congrArg Value.bool (decide_eq_true (by omega))) ?_
              refine TL_y rfl rfl (Y_move rfl) ?_
              refine TL_gskip rfl rfl rfl rfl ?_
              refine TL_gskip rfl rfl rfl rfl ?_
              refine TL_y rfl rfl (Y_pick_t rfl rfl) ?_
              refine TL_y rfl rfl (Y_assign rfl) ?_
              refine TL_nil ?_
              refine T_ret ?_
              exact RetG_1 (.inl rfl) rfl (ResV.tmp rfl) GivesTo.g (⟨rfl, rfl⟩)
          · dsimp only at hp
            rw [List.take_of_length_le (show (votes ++ more).length ≤ i by omega)] at hp
            refine T_region ?_
            refine TL_y rfl rfl (Y_move rfl) ?_
            refine TL_pullk b22 ?_
            refine TL_call rfl rfl (prFlights_spec) ?_
            rintro _ _ ⟨A119, c119, rfl, rfl⟩
            refine TL_freeze_osl ?_
            refine TL_y rfl rfl (Y_assign rfl) ?_
            refine TL_nil ?_
            refine T_seq ?_
            refine T_region ?_
            refine TL_y rfl rfl (Y_assign rfl) ?_
            refine TL_nil ?_
            refine T_block ?_
            refine T_loopK (σ := Nat) [2, 14, 15, 19] (fun i => i ≤ (flightsV (kp3 votes more)).length ∧ ∀ u ∈ (flightsV (kp3 votes more)).take i, u.slot ≠ slot) (fun i kv => (20, .int .i64 (i : Int)) :: kv) (fun i => sl votedR A119 c119 (flightsV (kp3 votes more)) :: sl votedR A67 c67 (votes ++ more) :: L) (fun i => (flightsV (kp3 votes more)).length - i) (0) rfl (⟨Nat.zero_le _, by simp⟩) (GivesTo.g) (sub_cons rfl (sub_cons rfl (sub_cons rfl (sub_cons rfl (sub_cons rfl (sub_nil)))))) ?_
            rintro i ⟨hil2, hno⟩
            refine SlN.lens (sln (A := A119) (c := c119)) fun hlx => ?_
            simp only [maxEl] at hlx
            refine T_seq ?_
            refine T_region ?_
            refine TL_y rfl rfl (Y_move rfl) ?_
            refine TL_y rfl rfl (Y_move rfl) ?_
            refine TL_y rfl rfl (Y_len rfl) ?_
            refine TL_y rfl rfl (Y_lt rfl rfl) ?_
            refine TL_nil ?_
            refine T_if rfl (fun h123 => ?_) (fun h123 => ?_)
            · refine T_skip ?_
              refine thenS_normal ?_
              refine T_seq ?_
              refine T_block ?_
              obtain ⟨f, hf⟩ : ∃ f, (flightsV (kp3 votes more))[i]? = some f := ⟨_, List.getElem?_eq_getElem (by omega)⟩
              have hfe := hKf.en f (List.mem_of_getElem? hf)
              refine T_addr_n (sln (A := A119) (c := c119)) hf fun bz oz ez => ?_
              subst ez
              refine T_region ?_
              refine TL_y rfl rfl (Y_move rfl) ?_
              refine TL_y rfl rfl (Y_move rfl) ?_
              refine TL_y rfl rfl (Y_index_n (R := votedR) (xs := flightsV (kp3 votes more)) rfl rfl rfl hf) ?_
              refine TL_y rfl rfl (Y_field_addr2 rfl) ?_
              refine TL_y rfl rfl (Y_load_nx (xs := flightsV (kp3 votes more)) (u := f) (v := .int .i64 f.slot) rfl (sln (c := c119)) hf (fun _ ↦ rfl)) ?_
              refine TL_y rfl rfl (Y_move rfl) ?_
              refine TL_y rfl rfl (Y_eq rfl rfl) ?_
              refine TL_nil ?_
              refine T_if rfl (fun h132 => ?_) (fun h132 => ?_)
              · have hen : f.en = u.en := (by rw [hfe, h132]; unfold keptE; rw [hp]; rfl)
                refine T_addr_n (sln (A := A67) (c := c67)) hu fun bl ol el => ?_
                subst el
                refine T_rd [0, 1, 3, 7, 7, 31, 63, 127, 7, 7, 775, 1799, 3847, 8191, 16383, 32767, 65535, 131071, 262143, 524287, 524287, 2097151, 4194303, 8388607, 16777215, 33554431, 67108863, 134217727] (by kernel_rfl) (by decide +kernel) ?_
                refine RD_pair 7 12 (by decide) ?_ ?_
                · refine RD_leaf (sl votedR (some ⟨bz, oz, none⟩) c119 (flightsV (kp3 votes more)) :: sl votedR (some ⟨bl, ol, none⟩) c67 (votes ++ more) :: []) [0, 1, 3, 7, 7, 31, 63, 127, 7, 7, 775, 1799, 4095, 8191, 16383, 32767, 65535, 131071, 262143, 524287, 524287, 2097151, 4194303, 8388607, 16777215, 33554431, 67108863, 134217727] [] [(0, true), (1, true), (2, true), (3, true), (4, true), (5, true), (6, true), (8, true), (9, true), (10, true), (11, true), (7, false), (12, false), (13, false), (14, true), (15, true), (16, true), (17, true), (18, true), (19, true), (20, true), (21, true), (22, true), (23, true), (24, true), (25, true), (26, true), (27, true)] (by decide +kernel) GivesTo.g ?_
                  refine TF_y rfl rfl (Y_move rfl) ?_
                  refine TF_y rfl rfl (Y_ge rfl rfl) ?_
                  refine TF_name 134 (v' := .bool true) rfl (congrArg Value.bool (decide_eq_true (by omega))) ?_
                  refine TF_y rfl rfl (Y_move rfl) ?_
                  refine TF_gy rfl rfl rfl rfl (Y_move rfl) ?_
                  refine TF_gy rfl rfl rfl rfl (Y_move rfl) ?_
                  refine TF_gy rfl rfl rfl rfl (Y_index_n (R := votedR) (xs := flightsV (kp3 votes more)) rfl rfl rfl hf) ?_
                  refine TF_gy rfl rfl rfl rfl (Y_field_addr2 rfl) ?_
                  refine TF_gy rfl rfl rfl rfl (Y_move rfl) ?_
                  refine TF_gy rfl rfl rfl rfl (Y_move rfl) ?_
                  refine TF_gy rfl rfl rfl rfl (Y_index_n (R := votedR) (xs := votes ++ more) rfl rfl rfl hu) ?_
                  refine TF_gy rfl rfl rfl rfl (Y_field_addr2 rfl) ?_
                  refine TF_anchor rfl ?_
                  refine TL_grun rfl rfl ?_
                  refine TL_load_nx (xs := flightsV (kp3 votes more)) rfl rfl (sln (c := c119)) hf (fun _ => rfl) ?_
                  intro p140 ok140
                  simp only [List.cons_append, List.nil_append]
                  refine TF_end GivesTo.g ?_
                  refine TF_anchor rfl ?_
                  refine TL_grun rfl rfl ?_
                  refine TL_load_nx (xs := votes ++ more) rfl rfl (sln (c := c67)) hu (fun _ => rfl) ?_
                  intro p145 ok145
                  simp only [List.cons_append, List.nil_append]
                  refine TF_end GivesTo.g ?_
                  refine TF_anchor rfl ?_
                  refine TL_grun rfl rfl ?_
                  refine TL_call rfl rfl (sameEntry_spec f.en u.en (A := p140.1) (c := p140.2) (B := p145.1) (d := p145.2) sln sln) ?_
                  rintro _ _ ⟨rfl, rfl⟩
                  refine TL_name 146 (v' := .bool true) rfl (congrArg Value.bool (decide_eq_true hen)) ?_
                  refine TF_end GivesTo.g ?_
                  refine TF_y rfl rfl (Y_pick_t rfl rfl) ?_
                  refine TF_y rfl rfl (Y_move rfl) ?_
                  refine TF_gskip rfl rfl rfl rfl rfl ?_
                  refine TF_gskip rfl rfl rfl rfl rfl ?_
                  refine TF_gskip rfl rfl rfl rfl rfl ?_
                  refine TF_gskip_u rfl rfl rfl rfl ?_
                  refine TF_gskip_u rfl rfl rfl rfl ?_
                  refine TF_gskip_u rfl rfl rfl rfl ?_
                  refine TF_gskip_u rfl rfl rfl rfl ?_
                  refine TF_gskip_u rfl rfl rfl rfl ?_
                  refine TF_gskip_u rfl rfl rfl rfl ?_
                  refine TF_gskip rfl rfl rfl rfl rfl ?_
                  refine TF_y rfl rfl (Y_pick_t rfl rfl) ?_
                  refine TF_y rfl rfl (Y_assign rfl) ?_
                  refine TF_nil ?_
                  refine thenS_normal ?_
                  refine T_ret ?_
                  refine inB_ret ?_
                  refine thenS_ret ?_
                  refine thenS_ret ?_
                  refine inB_ret ?_
                  refine thenS_ret ?_
                  exact RetG_1 (.inl rfl) rfl (ResV.tmp rfl) GivesTo.g (⟨rfl, rfl⟩)
                · refine RD_leaf (sl votedR (some ⟨bz, oz, none⟩) c119 (flightsV (kp3 votes more)) :: sl votedR (some ⟨bl, ol, none⟩) c67 (votes ++ more) :: []) [0, 1, 3, 7, 7, 31, 63, 8063, 7, 7, 775, 1799, 3847, 8191, 16383, 32767, 65535, 131071, 262143, 524287, 524287, 2097151, 4194303, 8388607, 16777215, 33554431, 67108863, 134217727] [] [(0, true), (1, true), (2, true), (3, true), (4, true), (5, true), (6, true), (8, true), (9, true), (10, true), (11, true), (12, false), (7, false), (13, false), (14, true), (15, true), (16, true), (17, true), (18, true), (19, true), (20, true), (21, true), (22, true), (23, true), (24, true), (25, true), (26, true), (27, true)] (by decide +kernel) GivesTo.g ?_
                  refine TF_y rfl rfl (Y_move rfl) ?_
                  refine TF_y rfl rfl (Y_ge rfl rfl) ?_
                  refine TF_name 134 (v' := .bool true) rfl (congrArg Value.bool (decide_eq_true (by omega))) ?_
                  refine TF_y rfl rfl (Y_move rfl) ?_
                  refine TF_gy rfl rfl rfl rfl (Y_move rfl) ?_
                  refine TF_gy rfl rfl rfl rfl (Y_move rfl) ?_
                  refine TF_gy rfl rfl rfl rfl (Y_index_n (R := votedR) (xs := flightsV (kp3 votes more)) rfl rfl rfl hf) ?_
                  refine TF_gy rfl rfl rfl rfl (Y_field_addr2 rfl) ?_
                  refine TF_gy rfl rfl rfl rfl (Y_move rfl) ?_
                  refine TF_gy rfl rfl rfl rfl (Y_move rfl) ?_
                  refine TF_gy rfl rfl rfl rfl (Y_index_n (R := votedR) (xs := votes ++ more) rfl rfl rfl hu) ?_
                  refine TF_gy rfl rfl rfl rfl (Y_field_addr2 rfl) ?_
                  refine TF_anchor rfl ?_
                  refine TL_grun rfl rfl ?_
                  refine TL_load_nx (xs := votes ++ more) rfl rfl (sln (c := c67)) hu (fun _ => rfl) ?_
                  intro p145 ok145
                  simp only [List.cons_append, List.nil_append]
                  refine TF_end GivesTo.g ?_
                  refine TF_anchor rfl ?_
                  refine TL_grun rfl rfl ?_
                  refine TL_load_nx (xs := flightsV (kp3 votes more)) rfl rfl (sln (c := c119)) hf (fun _ => rfl) ?_
                  intro p140 ok140
                  simp only [List.cons_append, List.nil_append]
                  refine TF_end GivesTo.g ?_
                  refine TF_anchor rfl ?_
                  refine TL_grun rfl rfl ?_
                  refine TL_call rfl rfl (sameEntry_spec f.en u.en (A := p140.1) (c := p140.2) (B := p145.1) (d := p145.2) sln sln) ?_
                  rintro _ _ ⟨rfl, rfl⟩
                  refine TL_name 146 (v' := .bool true) rfl (congrArg Value.bool (decide_eq_true hen)) ?_
                  refine TF_end GivesTo.g ?_
                  refine TF_y rfl rfl (Y_pick_t rfl rfl) ?_
                  refine TF_y rfl rfl (Y_move rfl) ?_
                  refine TF_gskip rfl rfl rfl rfl rfl ?_
                  refine TF_gskip rfl rfl rfl rfl rfl ?_
                  refine TF_gskip rfl rfl rfl rfl rfl ?_
                  refine TF_gskip_u rfl rfl rfl rfl ?_
                  refine TF_gskip_u rfl rfl rfl rfl ?_
                  refine TF_gskip_u rfl rfl rfl rfl ?_
                  refine TF_gskip_u rfl rfl rfl rfl ?_
                  refine TF_gskip_u rfl rfl rfl rfl ?_
                  refine TF_gskip_u rfl rfl rfl rfl ?_
                  refine TF_gskip rfl rfl rfl rfl rfl ?_
                  refine TF_y rfl rfl (Y_pick_t rfl rfl) ?_
                  refine TF_y rfl rfl (Y_assign rfl) ?_
                  refine TF_nil ?_
                  refine thenS_normal ?_
                  refine T_ret ?_
                  refine inB_ret ?_
                  refine thenS_ret ?_
                  refine thenS_ret ?_
                  refine inB_ret ?_
                  refine thenS_ret ?_
                  exact RetG_1 (.inl rfl) rfl (ResV.tmp rfl) GivesTo.g (⟨rfl, rfl⟩)
              · refine T_skip ?_
                refine inB_normal ?_
                refine thenS_normal ?_
                refine T_region_last ?_
                refine TL_y rfl rfl (Y_move rfl) ?_
                refine TL_y rfl rfl (Y_add rfl rfl (by omega)) ?_
                refine TL_name 125 (v' := .int .i64 ((i + 1 : Nat) : Int)) rfl (rfl) ?_
                refine TL_y rfl rfl (Y_assign rfl) ?_
                refine TL_nil ?_
                refine thenS_normal ?_
                exact ⟨i + 1, ⟨by omega, by rw [takeAt hf]; intro q hq; rcases List.mem_append.1 hq with h | h; (exact hno q h); (rw [List.mem_singleton.1 h]; exact h132)⟩, by omega, holds_to (sub_cons rfl (sub_cons rfl (sub_cons rfl (sub_cons rfl (sub_cons rfl (sub_nil)))))) GivesTo.g⟩
            · refine T_exit ?_
              refine thenS_exit ?_
              refine thenS_exit ?_
              refine inB_hit ?_
              refine thenS_normal ?_
              refine T_region ?_
              refine TL_y rfl rfl (Y_move rfl) ?_
              refine TL_y rfl rfl (Y_lt rfl rfl) ?_
              refine TL_name 161 (v' := .bool false) rfl (congrArg Value.bool (decide_eq_false (by omega))) ?_
              refine TL_y rfl rfl (Y_move rfl) ?_
              refine TL_grun rfl rfl ?_
              refine TL_y rfl rfl (Y_move rfl) ?_
              refine TL_grun rfl rfl ?_
              refine TL_y rfl rfl (Y_lt rfl rfl) ?_
              refine TL_name 164 (v' := .bool true) rfl (congrArg Value.bool (decide_eq_true (by exfalso; rw [List.take_of_length_le (show (flightsV (kp3 votes more)).length ≤ i by omega)] at hno; have hu1 := pickV_some hp; have hu2 := hin u hu1.1; obtain ⟨f, hf, hs⟩ := hKf.all u.slot hu2.1 hu2.2; exact hno f hf (hs.trans hu1.2.1)))) ?_
              refine TL_y rfl rfl (Y_pick_f rfl rfl) ?_
              refine TL_y rfl rfl (Y_assign rfl) ?_
              refine TL_nil ?_
              refine T_ret ?_
              exact RetG_1 (.inl rfl) rfl (ResV.tmp rfl) GivesTo.g (⟨rfl, rfl⟩)
end Go.SL
