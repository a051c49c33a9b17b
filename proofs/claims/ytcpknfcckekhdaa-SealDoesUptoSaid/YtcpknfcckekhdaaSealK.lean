/- Seal: the law on whatever entries are carried out. -/
import Derived.Test.YtcpknfcckekhdaaSealJ
set_option linter.unusedVariables false
set_option linter.unusedSimpArgs false
namespace Go.SL
open Go Go.Proofs
structure DoSt where
  i : Nat
  m : Nat
  A : Option Addr
  c : Nat
theorem run_dn3 {l : List EntryD} {i : Nat} {u : EntryD} (hl : l.length ≤ 17592186044416) (hu : l[i]? = some u) : intIn .i64 ((doS (runS (l.take i)) u).1.dn + 1) := by
  have h := runS_dn (l.take (i + 1))
  rw [runS_next hu, List.length_take] at h
  refine i64In_mk ?_; omega
theorem oth_ok : orderOk' (oneE ⟨#[111,116,104,101,114]⟩ ⟨#[111,116,104,101,114]⟩ 0).order ∧ cSeal (oneE ⟨#[111,116,104,101,114]⟩ ⟨#[111,116,104,101,114]⟩ 0).order ≤ 140737488355000 := by
  refine ⟨⟨?_, ?_, by decide, by simp [oneE]⟩, by decide⟩ <;> (simp only [maxEl]; decide)
theorem sealDoes_walk {L : List HP} {A : Option Addr} {c : Nat} {l : List EntryD} (cart token : ByteArray) (id : Int) (hc : cart.size ≤ maxEl) (ht : token.size ≤ maxEl) (hid : intIn .i64 id) (hk : SlK L entryR A c l) (hl : SLimits l) : Fn Try.prog 6 #[.slice A l.length c, .string cart, .string token, .int .i64 id] L (fun v L' => v = .bool true ∧ L' = L) := by
  have hl17 := hl.1
  refine Fn_enter Try.func6 rfl rfl rfl rfl ?_
  refine T_gives hk.lay ?_
  refine T_region ?_
  refine TL_y rfl rfl (Y_assign rfl) ?_
  refine TL_nil ?_
  refine T_region ?_
  refine TL_call rfl rfl (sealNew_spec _) ?_
  rintro _ _ ⟨b1, rfl, rfl⟩
  refine TL_y rfl rfl (Y_build rfl rfl) ?_
  refine TL_box rfl rfl rfl ?_
  intro b29
  refine TL_y rfl rfl (Y_assign rfl) ?_
  refine TL_y rfl rfl (Y_assign rfl) ?_
  refine TL_nil ?_
  refine T_seq ?_
  refine T_region ?_
  refine TL_call rfl rfl (lives19_spec _) ?_
  rintro _ _ ⟨rfl, rfl⟩
  refine TL_name 30 (v' := .bool true) rfl (rfl) ?_
  refine TL_y rfl rfl (Y_not_t rfl) ?_
  refine TL_y rfl rfl (Y_move rfl) ?_
  refine TL_grun rfl rfl ?_
  refine TL_y rfl rfl (Y_move rfl) ?_
  refine TL_grun rfl rfl ?_
  refine TL_y rfl rfl (Y_equal rfl rfl (EqIs.ptr_nil)) ?_
  refine TL_y rfl rfl (Y_pick_f rfl rfl) ?_
  refine TL_name 35 (v' := .bool false) rfl (by simp) ?_
  refine TL_nil ?_
  refine T_cond_false rfl ?_
  refine T_skip ?_
  refine thenS_normal ?_
  refine T_seq ?_
  refine T_region ?_
  refine TL_y rfl rfl (Y_assign rfl) ?_
  refine TL_nil ?_
  refine T_block ?_
  refine T_loopK (σ := DoSt) [0, 1, 2, 3, 10] (fun g => g.i ≤ l.length) (fun g kv => (11, .int .i64 (g.i : Int)) :: (9, .pointer (some ⟨g.m, 0, none⟩)) :: kv) (fun g => sm g.m (runS (l.take g.i)) :: rfC b29 g.A g.c (runS (l.take g.i)) :: sl ordR g.A g.c (runS (l.take g.i)).os :: sl entryR A c l :: L) (fun g => l.length - g.i) (⟨0, b1, none, 0⟩) rfl (Nat.zero_le _) (Gives.trans (SlK.lay (slnil (A := none) (c := 0) (R := ordR))) (show Gives (sl ordR none 0 [] :: cells b29 [.slice none 0 0, .int .i64 0] 53 :: sm b1 ⟨[], 0⟩ :: sl entryR A c l :: L) (sm b1 ⟨[], 0⟩ :: cells b29 [.slice none 0 0, .int .i64 0] 53 :: sl ordR none 0 [] :: sl entryR A c l :: L) from GivesTo.g)) (sub_cons rfl (sub_cons rfl (sub_cons rfl (sub_cons rfl (sub_cons rfl (sub_cons rfl (sub_cons rfl (sub_nil)))))))) ?_
  rintro ⟨i, bm, A2, c2⟩ hi
  dsimp only at hi ⊢
  refine T_seq ?_
  refine T_region ?_
  refine TL_y rfl rfl (Y_move rfl) ?_
  refine TL_y rfl rfl (Y_move rfl) ?_
  refine TL_y rfl rfl (Y_len rfl) ?_
  refine TL_y rfl rfl (Y_lt rfl rfl) ?_
  refine TL_nil ?_
  refine T_if rfl (fun h39 => ?_) (fun h39 => ?_)
  · refine T_skip ?_
    refine thenS_normal ?_
    refine T_seq ?_
    refine T_block ?_
    refine T_region ?_
    refine TL_y rfl rfl (Y_move rfl) ?_
    refine TL_y rfl rfl (Y_move rfl) ?_
    refine TL_y rfl rfl (Y_move rfl) ?_
    obtain ⟨u, hu⟩ : ∃ u, l[i]? = some u := ⟨_, List.getElem?_eq_getElem (by omega)⟩
    have hnx := runS_next hu
    have h65 := (SOk.run (l.take i)).len
    have hd3 := run_dn3 hl17 hu
    refine TL_index_n rfl rfl rfl (rfl) (sln) (hu) ?_
    intro bn46 on46 hA46 hk46
    have hu46 := hu
    refine TL_load_nx rfl rfl hk46 hu46 (fun _ => rfl) ?_
    intro p47 ok47
    simp only [List.cons_append, List.nil_append]
    refine TL_pullk bm ?_
    refine TL_call rfl rfl (sealDo_spec u ok47 slk (hl.2 u (List.mem_of_getElem? hu)) (run_dn1 hl17)) ?_
    rintro _ _ ⟨A48, c48, rfl, rfl⟩
    refine TL_y rfl rfl (Y_move rfl) ?_
    refine TL_y rfl rfl (Y_extract rfl rfl) ?_
    refine TL_y rfl rfl (Y_extract rfl rfl) ?_
    refine TL_y rfl rfl (Y_extract rfl rfl) ?_
    refine TL_alloc rfl rfl ?_
    intro b12
    refine TL_store rfl rfl rfl rfl rfl rfl ?_
    refine TL_y rfl rfl (Y_assign rfl) ?_
    refine TL_y rfl rfl (Y_assign rfl) ?_
    refine TL_nil ?_
    refine T_region ?_
    refine TL_y rfl rfl (Y_move rfl) ?_
    refine TL_y rfl rfl (Y_move rfl) ?_
    refine TL_y rfl rfl (Y_move rfl) ?_
    refine TL_index_n rfl rfl rfl (rfl) (sln) (hu) ?_
    intro bn56 on56 hA56 hk56
    have hu56 := hu
    refine TL_load_nx rfl rfl hk56 hu56 (fun _ => rfl) ?_
    intro p57 ok57
    simp only [List.cons_append, List.nil_append]
    refine TL_pullk b29 ?_
    refine TL_call rfl rfl (refDo_spec u ok57 slk slk (run_dn1 hl17) h65) ?_
    rintro _ _ ⟨A58, c58, A3, c3, rfl, rfl⟩
    refine TL_y rfl rfl (Y_move rfl) ?_
    refine TL_y rfl rfl (Y_extract rfl rfl) ?_
    refine TL_y rfl rfl (Y_extract rfl rfl) ?_
    refine TL_y rfl rfl (Y_extract rfl rfl) ?_
    refine TL_alloc rfl rfl ?_
    intro b15
    refine TL_store rfl rfl rfl rfl rfl rfl ?_
    refine TL_y rfl rfl (Y_assign rfl) ?_
    refine TL_y rfl rfl (Y_assign rfl) ?_
    refine TL_nil ?_
    refine T_seq ?_
    refine T_region_draw _ [0, 0, 3, 7, 15, 31, 31, 127, 255, 511, 1023, 1023, 4095, 8191, 16383, 32767, 65535, 32767, 163839, 425983, 950271, 2097151, 4194303] [] [(0, true), (1, true), (2, false), (3, true), (4, true), (5, true), (6, true), (7, true), (8, true), (9, true), (10, true), (11, true), (12, true), (13, true), (14, true), (15, true), (17, true), (18, true), (19, true), (20, true), (16, false), (21, true), (22, true)] (by kernel_rfl) (by decide +kernel) (Gives.refl _) ?_
    refine TF_y rfl rfl (Y_load_agg rfl rfl) ?_
    refine TF_y rfl rfl (Y_load_agg rfl rfl) ?_
    refine TF_anchor rfl ?_
    refine TL_call rfl rfl (sameOrder_spec _ _ sln sln) ?_
    rintro _ _ ⟨rfl, rfl⟩
    refine TL_name 64 (v' := .bool true) rfl (by simp) ?_
    refine TF_end GivesTo.g ?_
    refine TF_y rfl rfl (Y_not_t rfl) ?_
    refine TF_y rfl rfl (Y_move rfl) ?_
    refine TF_gy rfl rfl rfl rfl (Y_move rfl) ?_
    refine TF_gy rfl rfl rfl rfl (Y_move rfl) ?_
    refine TF_gy rfl rfl rfl rfl (Y_unequal rfl rfl (EqIs.bool)) ?_
    refine TF_name 69 (v' := .bool false) rfl (congrArg Value.bool (by simp)) ?_
    refine TF_y rfl rfl (Y_pick_f rfl rfl) ?_
    refine TF_y rfl rfl (Y_move rfl) ?_
    refine TF_gy rfl rfl rfl rfl (Y_move rfl) ?_
    refine TF_gy rfl rfl rfl rfl (Y_move rfl) ?_
    refine TF_gy rfl rfl rfl rfl (Y_ne rfl rfl) ?_
    refine TF_name 74 (v' := .bool false) rfl (by simp) ?_
    refine TF_y rfl rfl (Y_pick_f rfl rfl) ?_
    refine TF_y rfl rfl (Y_move rfl) ?_
    refine TF_gy rfl rfl rfl rfl (Y_move rfl) ?_
    refine TF_gy rfl rfl rfl rfl (Y_move rfl) ?_
    refine TF_gy rfl rfl rfl rfl (Y_nil_check rfl) ?_
    refine TF_gy rfl rfl rfl rfl (Y_field_addr rfl) ?_
    refine TF_gy rfl rfl rfl rfl (Y_load rfl rfl) ?_
    refine TF_anchor rfl ?_
    refine TL_grun rfl rfl ?_
    refine TL_pullk bm ?_
    refine TL_call rfl rfl (sealDone_spec) ?_
    rintro _ _ ⟨rfl, rfl⟩
    refine TF_end GivesTo.g ?_
    refine TF_gy rfl rfl rfl rfl (Y_ne rfl rfl) ?_
    refine TF_name 83 (v' := .bool false) rfl (by simp) ?_
    refine TF_y rfl rfl (Y_pick_f rfl rfl) ?_
    refine TF_nil ?_
    refine T_cond_false rfl ?_
    refine T_skip ?_
    refine thenS_normal ?_
    refine T_region ?_
    refine TL_y rfl rfl (Y_move rfl) ?_
    refine TL_y rfl rfl (Y_rem rfl rfl (by decide)) ?_
    refine TL_y rfl rfl (Y_eq rfl rfl) ?_
    refine TL_nil ?_
    refine T_if rfl (fun h87 => ?_) (fun h87 => ?_)
    · refine T_region ?_
      refine TL_y rfl rfl (Y_move rfl) ?_
      refine TL_pullk bm ?_
      refine TL_call rfl rfl (sealFork_spec) ?_
      rintro _ _ ⟨b89, rfl, rfl⟩
      refine TL_y rfl rfl (Y_assign rfl) ?_
      refine TL_nil ?_
      refine T_seq ?_
      refine T_region ?_
      refine TL_y rfl rfl (Y_move rfl) ?_
      refine TL_y rfl rfl (Y_equal rfl rfl (EqIs.ptr_nil)) ?_
      refine TL_name 91 (v' := .bool false) rfl (by simp) ?_
      refine TL_nil ?_
      refine T_cond_false rfl ?_
      refine T_skip ?_
      refine thenS_normal ?_
      refine T_region ?_
      refine TL_y rfl rfl (Y_move rfl) ?_
      refine TL_call rfl rfl (one_spec _ _ _ _) ?_
      rintro _ _ ⟨rfl, rfl⟩
      refine TL_pullk bm ?_
      refine TL_call rfl rfl (sealDo_spec _ oth_ok.1 slnil oth_ok.2 hd3) ?_
      rintro _ _ ⟨A94, c94, rfl, rfl⟩
      refine TL_nil ?_
      refine T_region_last ?_
      refine TL_y rfl rfl (Y_move rfl) ?_
      refine TL_y rfl rfl (Y_assign rfl) ?_
      refine TL_nil ?_
      refine inB_normal ?_
      refine thenS_normal ?_
      refine T_region_last ?_
      refine TL_y rfl rfl (Y_move rfl) ?_
      refine TL_y rfl rfl (Y_add rfl rfl (by omega)) ?_
      refine TL_name 41 (v' := .int .i64 ((i + 1 : Nat) : Int)) rfl (rfl) ?_
      refine TL_y rfl rfl (Y_assign rfl) ?_
      refine TL_nil ?_
      refine thenS_normal ?_
      rw [← hnx]
      exact ⟨⟨i + 1, b89, A3, c3⟩, (by simp only; omega), by simp only; omega, holds_to (sub_cons rfl (sub_cons rfl (sub_cons rfl (sub_cons rfl (sub_cons rfl (sub_cons rfl (sub_cons rfl (sub_nil)))))))) GivesTo.g⟩
    · refine T_skip ?_
      refine inB_normal ?_
      refine thenS_normal ?_
      refine T_region_last ?_
      refine TL_y rfl rfl (Y_move rfl) ?_
      refine TL_y rfl rfl (Y_add rfl rfl (by omega)) ?_
      refine TL_name 41 (v' := .int .i64 ((i + 1 : Nat) : Int)) rfl (rfl) ?_
      refine TL_y rfl rfl (Y_assign rfl) ?_
      refine TL_nil ?_
      refine thenS_normal ?_
      rw [← hnx]
      exact ⟨⟨i + 1, bm, A3, c3⟩, (by simp only; omega), by simp only; omega, holds_to (sub_cons rfl (sub_cons rfl (sub_cons rfl (sub_cons rfl (sub_cons rfl (sub_cons rfl (sub_cons rfl (sub_nil)))))))) GivesTo.g⟩
  · refine T_exit ?_
    refine thenS_exit ?_
    refine thenS_exit ?_
    refine inB_hit ?_
    refine thenS_normal ?_
    rw [show l.take i = l from List.take_of_length_le (by omega)]
    have h65 := (SOk.run l).len
    generalize hs : runS l = s at *
    refine T_region ?_
    refine TL_y rfl rfl (Y_move rfl) ?_
    refine TL_y rfl rfl (Y_move rfl) ?_
    refine TL_pullk bm ?_
    refine TL_call rfl rfl (sealToken_spec token ht) ?_
    rintro _ _ ⟨A99, c99, rfl, rfl⟩
    refine TL_y rfl rfl (Y_move rfl) ?_
    refine TL_y rfl rfl (Y_extract rfl rfl) ?_
    refine TL_y rfl rfl (Y_extract rfl rfl) ?_
    refine TL_alloc rfl rfl ?_
    intro b19
    refine TL_store rfl rfl rfl rfl rfl rfl ?_
    refine TL_y rfl rfl (Y_assign rfl) ?_
    refine TL_nil ?_
    refine T_region ?_
    refine TL_y rfl rfl (Y_move rfl) ?_
    refine TL_y rfl rfl (Y_move rfl) ?_
    refine TL_pullk b29 ?_
    refine TL_call rfl rfl (refToken_spec token ht slk) ?_
    rintro _ _ ⟨A105, c105, rfl, rfl⟩
    refine TL_y rfl rfl (Y_move rfl) ?_
    refine TL_y rfl rfl (Y_extract rfl rfl) ?_
    refine TL_y rfl rfl (Y_extract rfl rfl) ?_
    refine TL_alloc rfl rfl ?_
    intro b21
    refine TL_store rfl rfl rfl rfl rfl rfl ?_
    refine TL_y rfl rfl (Y_assign rfl) ?_
    refine TL_nil ?_
    refine T_region ?_
    refine TL_y rfl rfl (Y_move rfl) ?_
    refine TL_y rfl rfl (Y_move rfl) ?_
    refine TL_pullk bm ?_
    refine TL_call rfl rfl (sealGet_spec id hid) ?_
    rintro _ _ ⟨A111, c111, rfl, rfl⟩
    refine TL_y rfl rfl (Y_move rfl) ?_
    refine TL_y rfl rfl (Y_extract rfl rfl) ?_
    refine TL_y rfl rfl (Y_extract rfl rfl) ?_
    refine TL_alloc rfl rfl ?_
    intro b23
    refine TL_store rfl rfl rfl rfl rfl rfl ?_
    refine TL_y rfl rfl (Y_assign rfl) ?_
    refine TL_nil ?_
    refine T_region ?_
    refine TL_y rfl rfl (Y_move rfl) ?_
    refine TL_y rfl rfl (Y_move rfl) ?_
    refine TL_pullk b29 ?_
    refine TL_call rfl rfl (refGet_spec id hid slk) ?_
    rintro _ _ ⟨A117, c117, rfl, rfl⟩
    refine TL_y rfl rfl (Y_move rfl) ?_
    refine TL_y rfl rfl (Y_extract rfl rfl) ?_
    refine TL_y rfl rfl (Y_extract rfl rfl) ?_
    refine TL_alloc rfl rfl ?_
    intro b25
    refine TL_store rfl rfl rfl rfl rfl rfl ?_
    refine TL_y rfl rfl (Y_assign rfl) ?_
    refine TL_nil ?_
    refine T_region_draw _ [0, 0, 3, 7, 15, 15, 63, 127, 255, 511, 511, 2047, 4095, 8191, 16383, 16383, 65535, 131071, 262143, 524287, 524287, 2097151, 524287, 524287, 16777215, 33554431, 67108863, 134217727, 268435455, 536870911, 268435455, 1342177279, 3489660927, 7784628223, 17179869183, 34359738367, 68719476735, 137438953471, 274877906943, 137438953471, 1099511627775, 2199023255551, 4398046511103, 8796093022207] [] [(0, true), (1, true), (2, false), (3, true), (4, true), (5, true), (6, true), (7, true), (8, true), (9, true), (10, true), (11, false), (12, true), (13, true), (14, true), (15, true), (16, true), (17, true), (18, true), (19, true), (20, true), (22, true), (23, true), (21, false), (24, false), (25, true), (26, true), (27, true), (28, true), (30, true), (31, true), (32, true), (33, true), (29, false), (34, false), (35, true), (36, true), (37, true), (39, true), (38, false), (40, false), (41, false), (42, true), (43, true)] (by kernel_rfl) (by decide +kernel) (Gives.refl _) ?_
    refine TF_y rfl rfl (Y_load_agg rfl rfl) ?_
    refine TF_y rfl rfl (Y_load_agg rfl rfl) ?_
    refine TF_anchor rfl ?_
    refine TL_call rfl rfl (sameOrder_spec _ _ sln sln) ?_
    rintro _ _ ⟨rfl, rfl⟩
    refine TL_name 122 (v' := .bool true) rfl (by simp) ?_
    refine TF_end GivesTo.g ?_
    refine TF_y rfl rfl (Y_move rfl) ?_
    refine TF_gy rfl rfl rfl rfl (Y_move rfl) ?_
    refine TF_gy rfl rfl rfl rfl (Y_move rfl) ?_
    refine TF_gy rfl rfl rfl rfl (Y_equal rfl rfl (EqIs.bool)) ?_
    refine TF_name 126 (v' := .bool true) rfl (congrArg Value.bool (by simp)) ?_
    refine TF_y rfl rfl (Y_pick_t rfl rfl) ?_
    refine TF_y rfl rfl (Y_move rfl) ?_
    refine TF_gy rfl rfl rfl rfl (Y_load_agg rfl rfl) ?_
    refine TF_gy rfl rfl rfl rfl (Y_load_agg rfl rfl) ?_
    refine TF_anchor rfl ?_
    refine TL_grun rfl rfl ?_
    refine TL_call rfl rfl (sameOrder_spec _ _ sln sln) ?_
    rintro _ _ ⟨rfl, rfl⟩
    refine TL_name 131 (v' := .bool true) rfl (by simp) ?_
    refine TF_end GivesTo.g ?_
    refine TF_y rfl rfl (Y_pick_t rfl rfl) ?_
    refine TF_y rfl rfl (Y_move rfl) ?_
    refine TF_gy rfl rfl rfl rfl (Y_move rfl) ?_
    refine TF_gy rfl rfl rfl rfl (Y_move rfl) ?_
    refine TF_gy rfl rfl rfl rfl (Y_equal rfl rfl (EqIs.bool)) ?_
    refine TF_name 136 (v' := .bool true) rfl (congrArg Value.bool (by simp)) ?_
    refine TF_y rfl rfl (Y_pick_t rfl rfl) ?_
    refine TF_y rfl rfl (Y_move rfl) ?_
    refine TF_gy rfl rfl rfl rfl (Y_move rfl) ?_
    refine TF_gy rfl rfl rfl rfl (Y_move rfl) ?_
    refine TF_gy rfl rfl rfl rfl (Y_move rfl) ?_
    refine TF_gy rfl rfl rfl rfl (Y_move rfl) ?_
    refine TF_anchor rfl ?_
    refine TL_grun rfl rfl ?_
    refine TL_pullk bm ?_
    refine TL_call rfl rfl (sealEpoch_spec cart hc) ?_
    rintro _ _ ⟨rfl, rfl⟩
    refine TF_end GivesTo.g ?_
    refine TF_anchor rfl ?_
    refine TL_grun rfl rfl ?_
    refine TL_pullk b29 ?_
    refine TL_call rfl rfl (refEpoch_spec cart hc slk h65) ?_
    rintro _ _ ⟨rfl, rfl⟩
    refine TF_end GivesTo.g ?_
    refine TF_gy rfl rfl rfl rfl (Y_eq rfl rfl) ?_
    refine TF_name 145 (v' := .bool true) rfl (by simp) ?_
    refine TF_y rfl rfl (Y_pick_t rfl rfl) ?_
    refine TF_y rfl rfl (Y_move rfl) ?_
    refine TF_gy rfl rfl rfl rfl (Y_move rfl) ?_
    refine TF_gy rfl rfl rfl rfl (Y_move rfl) ?_
    refine TF_gy rfl rfl rfl rfl (Y_nil_check rfl) ?_
    refine TF_gy rfl rfl rfl rfl (Y_field_addr rfl) ?_
    refine TF_gy rfl rfl rfl rfl (Y_load rfl rfl) ?_
    refine TF_anchor rfl ?_
    refine TL_grun rfl rfl ?_
    refine TL_pullk bm ?_
    refine TL_call rfl rfl (sealOrders_spec) ?_
    rintro _ _ ⟨A149, c149, rfl, _, rfl⟩
    refine TL_freeze_osl ?_
    refine TF_end GivesTo.g ?_
    refine TF_anchor rfl ?_
    refine TL_grun rfl rfl ?_
    refine TL_call rfl rfl (sameOrders_spec slk slk) ?_
    rintro _ _ ⟨rfl, rfl⟩
    refine TL_name 154 (v' := .bool true) rfl (by simp) ?_
    refine TF_end GivesTo.g ?_
    refine TF_y rfl rfl (Y_pick_t rfl rfl) ?_
    refine TF_y rfl rfl (Y_move rfl) ?_
    refine TF_gy rfl rfl rfl rfl (Y_move rfl) ?_
    refine TF_gy rfl rfl rfl rfl (Y_move rfl) ?_
    refine TF_anchor rfl ?_
    refine TL_grun rfl rfl ?_
    refine TL_pullk bm ?_
    refine TL_call rfl rfl (sealSeals_spec) ?_
    rintro _ _ ⟨A158, c158, rfl, _, rfl⟩
    refine TL_freeze_osl ?_
    refine TF_end GivesTo.g ?_
    refine TF_anchor rfl ?_
    refine TL_grun rfl rfl ?_
    refine TL_pullk b29 ?_
    refine TL_call rfl rfl (refSeals_spec slk h65) ?_
    rintro _ _ ⟨A160, c160, rfl, rfl⟩
    refine TL_freeze_osl ?_
    refine TF_end GivesTo.g ?_
    refine TF_anchor rfl ?_
    refine TL_grun rfl rfl ?_
    refine TL_call rfl rfl (sameSeals_spec slk slk) ?_
    rintro _ _ ⟨rfl, rfl⟩
    refine TL_name 161 (v' := .bool true) rfl (by simp) ?_
    refine TF_end GivesTo.g ?_
    refine TF_y rfl rfl (Y_pick_t rfl rfl) ?_
    refine TF_y rfl rfl (Y_assign rfl) ?_
    refine TF_nil ?_
    refine T_ret ?_
    exact RetG_1 (.inl rfl) rfl (ResV.tmp rfl) GivesTo.g (⟨rfl, rfl⟩)
end Go.SL
