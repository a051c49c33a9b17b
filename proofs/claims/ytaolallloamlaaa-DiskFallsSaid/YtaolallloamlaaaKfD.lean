/- What the laws of this claim need, together: the logic, data in memory, the walks of functions. -/
import Derived.Test.YtaolallloamlaaaKfC
import Derived.Carry
import Derived.SizedLaws
import Derived.OpenShut
import Derived.ProofKit
set_option linter.unusedVariables false
set_option linter.unusedSimpArgs false
set_option linter.unusedVariables false
set_option linter.unusedSimpArgs false
namespace Go.SL
open Go Go.Proofs
theorem rk_fresh {L : List HP} {b : Nat} {n : Int} (h : 0 ≤ n ∧ n ≤ 268435456) : Gives (rkC b n none 0 0 false 0 :: L) (rk b (dkNew n) :: L) :=
  Gives.trans (Gives.trans (osl_nil fileR 40 none _) (Gives.swap _ _ _)) (show Gives _ (rk b (dkNew n) :: L) from rk_close (A := none) (c := 0) (ca := 0) b (dkNew n) ⟨dkNew_I h, by decide, fun hh => absurd rfl hh⟩)
set_option maxHeartbeats 1000000 in
theorem diskFalls_walk {L : List HP} {A K : Option Addr} {c ck : Nat} {l : List OpD} {keep : List TornD} (hk : SlK L opR A c l) (hkp : SlK L tornR K ck keep) (hl : l.length ≤ 17592186044416) : Fn Try.prog 3 #[.slice A l.length c, .slice K keep.length ck] L (fun v L' => v = .bool true ∧ L' = L) := by
  refine Fn_enter Try.func3 rfl rfl rfl rfl ?_
  refine T_gives hk.lay ?_
  refine T_gives (hkp.tail).lay ?_
  refine T_region ?_
  refine TL_y rfl rfl (Y_assign rfl) ?_
  refine TL_nil ?_
  refine T_region ?_
  refine TL_call rfl rfl (diskNew_ok 4096 (by decide) _) ?_
  rintro _ _ ⟨b, bt, rfl, rfl⟩
  refine TL_y rfl rfl (Y_move rfl) ?_
  refine TL_y rfl rfl (Y_extract rfl rfl) ?_
  refine TL_y rfl rfl (Y_extract rfl rfl) ?_
  refine TL_y rfl rfl (Y_assign rfl) ?_
  refine TL_y rfl rfl (Y_assign rfl) ?_
  refine TL_nil ?_
  refine T_seq ?_
  refine T_region ?_
  refine TL_call rfl rfl (lives03_spec _) ?_
  rintro _ _ ⟨rfl, rfl⟩
  refine TL_name 21 (v' := .bool true) rfl (rfl) ?_
  refine TL_y rfl rfl (Y_not_t rfl) ?_
  refine TL_y rfl rfl (Y_move rfl) ?_
  refine TL_grun rfl rfl ?_
  refine TL_y rfl rfl (Y_move rfl) ?_
  refine TL_grun rfl rfl ?_
  refine TL_y rfl rfl (Y_ne rfl rfl) ?_
  refine TL_name 25 (v' := .bool false) rfl (congrArg Value.bool (by decide)) ?_
  refine TL_y rfl rfl (Y_pick_f rfl rfl) ?_
  refine TL_y rfl rfl (Y_move rfl) ?_
  refine TL_grun rfl rfl ?_
  refine TL_y rfl rfl (Y_move rfl) ?_
  refine TL_grun rfl rfl ?_
  refine TL_y rfl rfl (Y_equal rfl rfl (EqIs.ptr_nil)) ?_
  refine TL_name 29 (v' := .bool false) rfl (by simp) ?_
  refine TL_y rfl rfl (Y_pick_f rfl rfl) ?_
  refine TL_nil ?_
  refine T_cond_false rfl ?_
  refine T_skip ?_
  refine thenS_normal ?_
  refine T_seq ?_
  refine T_region ?_
  refine TL_y rfl rfl (Y_assign rfl) ?_
  refine TL_nil ?_
  refine T_block ?_
  refine T_loopK (σ := RmSt) [0, 1, 5] (fun g => g.i ≤ l.length) (fun g kv => (7, .int .i64 (g.i : Int)) :: kv) (fun g => dk b bt g.s :: sl tornR K ck keep :: sl opR A c l :: L) (fun g => l.length - g.i) (⟨0, dkNew 4096⟩) rfl (Nat.zero_le _) (GivesTo.g) (sub_cons rfl (sub_cons rfl (sub_cons rfl (sub_cons rfl (sub_nil))))) ?_
  rintro ⟨i, s⟩ hil
  dsimp only at hil ⊢
  refine T_seq ?_
  refine T_region ?_
  refine TL_y rfl rfl (Y_move rfl) ?_
  refine TL_y rfl rfl (Y_move rfl) ?_
  refine TL_y rfl rfl (Y_len rfl) ?_
  refine TL_y rfl rfl (Y_lt rfl rfl) ?_
  refine TL_nil ?_
  refine T_if rfl (fun h34 => ?_) (fun h34 => ?_)
  · refine T_skip ?_
    refine thenS_normal ?_
    refine T_seq ?_
    refine T_block ?_
    obtain ⟨u, hu⟩ : ∃ u, l[i]? = some u := ⟨_, List.getElem?_eq_getElem (by omega)⟩
    refine T_region ?_
    refine TL_y rfl rfl (Y_move rfl) ?_
    refine TL_y rfl rfl (Y_move rfl) ?_
    refine TL_index_n rfl rfl rfl (rfl) ((sln (A := A) (c := c))) (hu) ?_
    intro bn39 on39 hA39 hk39
    have hu39 := hu
    refine TL_y rfl rfl (Y_field_addr2 rfl) ?_
    refine TL_y rfl rfl (Y_load_nx rfl hk39 hu39 (fun _ => rfl)) ?_
    refine TL_y rfl rfl (Y_ge rfl rfl) ?_
    refine TL_y rfl rfl (Y_move rfl) ?_
    refine TL_splitd 43 rfl (fun h43 => ?_) (fun h43 => ?_)
    · refine TL_grun rfl rfl ?_
      refine TL_y rfl rfl (Y_move rfl) ?_
      refine TL_grun rfl rfl ?_
      refine TL_y rfl rfl (Y_move rfl) ?_
      refine TL_grun rfl rfl ?_
      refine TL_index_n rfl rfl rfl (rfl) ((sln (A := A) (c := c))) (hu) ?_
      intro bn46 on46 hA46 hk46
      have hu46 := hu
      refine TL_grun rfl rfl ?_
      refine TL_y rfl rfl (Y_field_addr2 rfl) ?_
      refine TL_grun rfl rfl ?_
      refine TL_y rfl rfl (Y_load_nx rfl hk46 hu46 (fun _ => rfl)) ?_
      refine TL_grun rfl rfl ?_
      refine TL_y rfl rfl (Y_le rfl rfl) ?_
      refine TL_y rfl rfl (Y_pick_t rfl rfl) ?_
      refine TL_nil ?_
      refine T_if rfl (fun h50 => ?_) (fun h50 => ?_)
      · refine T_region_last ?_
        refine TL_y rfl rfl (Y_move rfl) ?_
        refine TL_y rfl rfl (Y_build rfl rfl) ?_
        refine TL_box rfl rfl rfl ?_
        intro b53
        refine TL_gives (show Gives _ (rkC b53 4096 none 0 0 false 0 :: dk b bt s :: sl tornR K ck keep :: sl opR A c l :: L) from GivesTo.g) ?_
        refine TL_gives (rk_fresh (by decide)) ?_
        refine TL_y rfl rfl (Y_move rfl) ?_
        refine TL_y rfl rfl (Y_move rfl) ?_
        refine TL_index_n rfl rfl rfl (rfl) ((sln (A := A) (c := c))) (hu) ?_
        intro bn56 on56 hA56 hk56
        have hu56 := hu
        refine TL_load_nx rfl rfl hk56 hu56 (fun _ => rfl) ?_
        intro p57 ok57
        simp only [List.cons_append, List.nil_append]
        refine TL_fact (φ := fun M => sliceAt M (intR .u8) p57.1.1 p57.1.2 u.bytes) slk (fun M h => u8_of h) fun hub => ?_
        refine TL_gives (show Gives _ (dk b bt s :: rk b53 (dkNew 4096) :: sl (intR .u8) p57.1.1 p57.1.2 u.bytes :: sl tornR K ck keep :: sl opR A c l :: L) from GivesTo.g) ?_
        refine TL_call rfl rfl (does15_spec (s := s) (t := dkNew 4096) u p57 ok57 (slk (A := p57.1.1) (c := p57.1.2)) hub (by omega)) ?_
        rintro _ _ ⟨r, s', t', rfl, rfl, _⟩
        refine TL_nil ?_
        refine inB_normal ?_
        refine thenS_normal ?_
        refine T_region_last ?_
        refine TL_y rfl rfl (Y_move rfl) ?_
        refine TL_name 35 (v' := .int .i64 (i : Int)) rfl (rfl) ?_
        refine TL_y rfl rfl (Y_add rfl rfl (by omega)) ?_
        refine TL_name 36 (v' := .int .i64 ((i + 1 : Nat) : Int)) rfl (rfl) ?_
        refine TL_y rfl rfl (Y_assign rfl) ?_
        refine TL_nil ?_
        refine thenS_normal ?_
        exact ⟨⟨i + 1, s'⟩, (by simp only; omega), by simp only; omega, holds_to (sub_cons rfl (sub_cons rfl (sub_cons rfl (sub_cons rfl (sub_nil))))) GivesTo.g⟩
      · refine T_skip ?_
        refine inB_normal ?_
        refine thenS_normal ?_
        refine T_region_last ?_
        refine TL_y rfl rfl (Y_move rfl) ?_
        refine TL_name 35 (v' := .int .i64 (i : Int)) rfl (rfl) ?_
        refine TL_y rfl rfl (Y_add rfl rfl (by omega)) ?_
        refine TL_name 36 (v' := .int .i64 ((i + 1 : Nat) : Int)) rfl (rfl) ?_
        refine TL_y rfl rfl (Y_assign rfl) ?_
        refine TL_nil ?_
        refine thenS_normal ?_
        exact ⟨⟨i + 1, s⟩, (by simp only; omega), by simp only; omega, holds_to (sub_cons rfl (sub_cons rfl (sub_cons rfl (sub_cons rfl (sub_nil))))) GivesTo.g⟩
    · refine TL_gskip rfl rfl rfl rfl ?_
      refine TL_gskip rfl rfl rfl rfl ?_
      refine TL_gskip rfl rfl rfl rfl ?_
      refine TL_gskip rfl rfl rfl rfl ?_
      refine TL_gskip rfl rfl rfl rfl ?_
      refine TL_gskip rfl rfl rfl rfl ?_
      refine TL_y rfl rfl (Y_pick_f rfl rfl) ?_
      refine TL_nil ?_
      refine T_cond_false rfl ?_
      refine T_skip ?_
      refine inB_normal ?_
      refine thenS_normal ?_
      refine T_region_last ?_
      refine TL_y rfl rfl (Y_move rfl) ?_
      refine TL_name 35 (v' := .int .i64 (i : Int)) rfl (rfl) ?_
      refine TL_y rfl rfl (Y_add rfl rfl (by omega)) ?_
      refine TL_name 36 (v' := .int .i64 ((i + 1 : Nat) : Int)) rfl (rfl) ?_
      refine TL_y rfl rfl (Y_assign rfl) ?_
      refine TL_nil ?_
      refine thenS_normal ?_
      exact ⟨⟨i + 1, s⟩, (by simp only; omega), by simp only; omega, holds_to (sub_cons rfl (sub_cons rfl (sub_cons rfl (sub_cons rfl (sub_nil))))) GivesTo.g⟩
  · refine T_exit ?_
    refine thenS_exit ?_
    refine thenS_exit ?_
    refine inB_hit ?_
    refine thenS_normal ?_
    refine T_region ?_
    refine TL_y rfl rfl (Y_move rfl) ?_
    refine TL_call rfl rfl (diskFiles_spec) ?_
    rintro _ _ ⟨A60, c60, rfl, rfl⟩
    refine TL_freeze_osl ?_
    refine TL_y rfl rfl (Y_assign rfl) ?_
    refine TL_nil ?_
    refine T_seq ?_
    refine T_pullk b ?_
    refine T_dkI fun hi => ?_
    have hln := hi.len
    have hvl : (VF s).length = s.l.length := List.length_map _
    have hvl1 : (List.map viewF s.l).length = s.l.length := List.length_map _
    refine T_region ?_
    refine TL_y rfl rfl (Y_move rfl) ?_
    refine TL_y rfl rfl (Y_move rfl) ?_
    refine TL_call rfl rfl (diskCrash_spec (keep := keep) (sln (A := K) (c := ck))) ?_
    rintro _ _ ⟨rfl, rfl⟩
    refine TL_y rfl rfl (Y_assign rfl) ?_
    refine TL_nil ?_
    rcases Classical.em (crashOk s keep) with hck | hck
    · rw [if_pos hck, if_pos hck]
      refine T_region ?_
      refine TL_y rfl rfl (Y_move rfl) ?_
      refine TL_y rfl rfl (Y_ne rfl rfl) ?_
      refine TL_name 65 (v' := .bool false) rfl (congrArg Value.bool (by decide)) ?_
      refine TL_nil ?_
      refine T_cond_false rfl ?_
      refine T_skip ?_
      refine thenS_normal ?_
      refine T_region ?_
      refine TL_y rfl rfl (Y_move rfl) ?_
      refine TL_call rfl rfl (diskFiles_spec) ?_
      rintro _ _ ⟨A93, c93, rfl, rfl⟩
      refine TL_freeze_osl ?_
      refine TL_y rfl rfl (Y_assign rfl) ?_
      refine TL_nil ?_
      refine T_seq ?_
      have hvc : (VF (crashK s keep)).length = s.l.length := (by show ((s.l.map (cutE keep)).map viewF).length = _; rw [List.length_map, List.length_map])
      have hvc2 : (List.map viewF (crashK s keep).l).length = s.l.length := hvc
      refine T_region ?_
      refine TL_y rfl rfl (Y_move rfl) ?_
      refine TL_y rfl rfl (Y_len rfl) ?_
      refine TL_y rfl rfl (Y_move rfl) ?_
      refine TL_y rfl rfl (Y_len rfl) ?_
      refine TL_y rfl rfl (Y_ne rfl rfl) ?_
      refine TL_name 98 (v' := .bool false) rfl (congrArg Value.bool (decide_eq_false (by simp only [hvc, hvl]; simp))) ?_
      refine TL_nil ?_
      refine T_cond_false rfl ?_
      refine T_skip ?_
      refine thenS_normal ?_
      refine T_seq ?_
      refine T_region ?_
      refine TL_y rfl rfl (Y_assign rfl) ?_
      refine TL_nil ?_
      refine T_block ?_
      refine T_loopK (σ := Nat) [8, 12] (fun i => i ≤ s.l.length) (fun i kv => (13, .int .i64 (i : Int)) :: kv) (fun i => sl fileR A93 c93 (VF (crashK s keep)) :: sl fileR A60 c60 (VF s) :: dk b bt (crashK s keep) :: L) (fun i => s.l.length - i) (0) rfl (Nat.zero_le _) (GivesTo.g) (sub_cons rfl (sub_cons rfl (sub_cons rfl (sub_nil)))) ?_
      intro i hil2
      refine T_seq ?_
      refine T_region ?_
      refine TL_y rfl rfl (Y_move rfl) ?_
      refine TL_y rfl rfl (Y_move rfl) ?_
      refine TL_y rfl rfl (Y_len rfl) ?_
      refine TL_y rfl rfl (Y_lt rfl rfl) ?_
      refine TL_nil ?_
      refine T_if rfl (fun h102 => ?_) (fun h102 => ?_)
      · refine T_skip ?_
        refine thenS_normal ?_
        refine T_seq ?_
        refine T_block ?_
        obtain ⟨e, he⟩ : ∃ e, s.l[i]? = some e := ⟨_, List.getElem?_eq_getElem (by omega)⟩
        have hem := List.mem_of_getElem? he
        have hoe := hi.ok e hem
        have hpt := kpt_ok hi hck hem
        have hte := tot_mem hem
        have htt := hi.tot
        have hss := hi.size
        obtain ⟨m, hm⟩ : ∃ m : Nat, e.synced + kpt keep e.name = (m : Int) := ⟨(e.synced + kpt keep e.name).toNat, by omega⟩
        have hcE : cutE keep e = ⟨e.name, e.blk, e.bytes.take m, (m : Int)⟩ := (by unfold cutE; rw [hm]; rfl)
        have hml2 : m ≤ e.bytes.length := (by omega)
        have hf1 : (VF s)[i]? = some (viewF e) := vw_get he
        have hf2 : (VF (crashK s keep))[i]? = some (viewF ⟨e.name, e.blk, e.bytes.take m, (m : Int)⟩) := (by show ((s.l.map (cutE keep)).map viewF)[i]? = _; rw [List.getElem?_map, List.getElem?_map, he, ← hcE]; rfl)
        have hs1 : (viewF e).bytes.size = e.bytes.length := str_size _
        have hs2 : (strOfNums (e.bytes.take m)).size = m := (by rw [str_size, List.length_take]; omega)
        refine T_addr_n (sln (A := A60) (c := c60) (R := fileR) (xs := VF s)) hf1 fun b1 o1 eq1 => ?_
        subst eq1
        refine T_addr_n (sln (A := A93) (c := c93) (R := fileR) (xs := VF (crashK s keep))) hf2 fun b2 o2 eq2 => ?_
        subst eq2
        refine T_rd [0, 0, 3, 7, 0, 0, 48, 112, 0, 0, 783, 2047] (by kernel_rfl) (by decide +kernel) ?_
        refine RD_pair 8 9 (by decide) ?_ ?_
        · refine RD_leaf _ [0, 0, 3, 7, 0, 0, 48, 112, 0, 256, 783, 2047] [] [(0, true), (1, true), (2, true), (3, true), (4, true), (5, true), (6, true), (7, true), (8, false), (9, false), (10, false), (11, false)] (by decide +kernel) (Gives.refl _) ?_
          refine TF_y rfl rfl (Y_move rfl) ?_
          refine TF_y rfl rfl (Y_move rfl) ?_
          refine TF_y rfl rfl (Y_index_n (R := fileR) (xs := VF s) rfl rfl rfl hf1) ?_
          refine TF_y rfl rfl (Y_load_naf (R := fileR) (c := c60) (xs := VF s) (q := 0) (vs := fileC (viewF e)) rfl sln hf1 rfl) ?_
          refine TF_y rfl rfl (Y_move rfl) ?_
          refine TF_y rfl rfl (Y_move rfl) ?_
          refine TF_y rfl rfl (Y_index_n (R := fileR) (xs := VF (crashK s keep)) rfl rfl rfl hf2) ?_
          refine TF_y rfl rfl (Y_load_naf (R := fileR) (c := c93) (xs := VF (crashK s keep)) (q := 0) (vs := fileC (viewF ⟨e.name, e.blk, e.bytes.take m, (m : Int)⟩)) rfl sln hf2 rfl) ?_
          refine TF_anchor rfl ?_
          refine TL_alloc rfl rfl ?_
          intro b14
          refine TF_end GivesTo.g ?_
          refine TF_anchor rfl ?_
          refine TL_alloc rfl rfl ?_
          intro b15
          refine TF_end GivesTo.g ?_
          refine TF_anchor rfl ?_
          refine TL_store rfl rfl rfl rfl rfl rfl ?_
          refine TF_end GivesTo.g ?_
          refine TF_anchor rfl ?_
          refine TL_store rfl rfl rfl rfl rfl rfl ?_
          refine TF_end GivesTo.g ?_
          refine TF_nil ?_
          refine thenS_normal ?_
          refine T_region ?_
          refine TL_y rfl rfl (Y_field_addr rfl) ?_
          refine TL_y rfl rfl (Y_load rfl rfl) ?_
          refine TL_y rfl rfl (Y_len_str rfl) ?_
          refine TL_name 115 (v' := .int .i64 (m : Int)) rfl (by rw [show (viewF ⟨e.name, e.blk, e.bytes.take m, (m : Int)⟩).bytes.size = m from hs2]) ?_
          refine TL_y rfl rfl (Y_assign rfl) ?_
          refine TL_nil ?_
          refine T_region_draw _ [0, 1, 0, 4, 15, 31, 63, 63, 191, 511, 1023, 2047, 4095, 4095, 12287, 28671, 65535, 131071, 262143, 524287, 1048575, 524287, 4194303, 524287, 8912895, 33554431, 67108863, 134217727, 268435455, 536870911, 268435455, 2147483647, 4294967295] [] [(0, true), (1, true), (2, true), (3, true), (4, true), (5, true), (6, true), (7, true), (8, true), (9, true), (10, true), (11, true), (12, true), (13, true), (14, true), (15, true), (16, true), (17, true), (18, true), (19, true), (20, true), (21, true), (22, true), (23, true), (24, true), (25, true), (26, true), (27, true), (28, true), (29, true), (30, true), (31, true), (32, true)] (by kernel_rfl) (by decide +kernel) (Gives.refl _) ?_
          refine TF_y rfl rfl (Y_field_addr rfl) ?_
          refine TF_y rfl rfl (Y_load rfl rfl) ?_
          refine TF_y rfl rfl (Y_field_addr rfl) ?_
          refine TF_y rfl rfl (Y_load rfl rfl) ?_
          refine TF_y rfl rfl (Y_str_ne rfl rfl) ?_
          refine TF_name 120 (v' := .bool false) rfl (congrArg Value.bool (decide_eq_false (fun h => h rfl))) ?_
          refine TF_y rfl rfl (Y_move rfl) ?_
          refine TF_gy rfl rfl rfl rfl (Y_move rfl) ?_
          refine TF_gy rfl rfl rfl rfl (Y_field_addr rfl) ?_
          refine TF_gy rfl rfl rfl rfl (Y_load rfl rfl) ?_
          refine TF_gy rfl rfl rfl rfl (Y_lt rfl rfl) ?_
          refine TF_name 125 (v' := .bool false) rfl (congrArg Value.bool (decide_eq_false (by show ¬ (m : Int) < e.synced; omega))) ?_
          refine TF_y rfl rfl (Y_pick_f rfl rfl) ?_
          refine TF_y rfl rfl (Y_move rfl) ?_
          refine TF_gy rfl rfl rfl rfl (Y_move rfl) ?_
          refine TF_gy rfl rfl rfl rfl (Y_field_addr rfl) ?_
          refine TF_gy rfl rfl rfl rfl (Y_load rfl rfl) ?_
          refine TF_gy rfl rfl rfl rfl (Y_len_str rfl) ?_
          refine TF_gy rfl rfl rfl rfl (Y_gt rfl rfl) ?_
          refine TF_name 132 (v' := .bool false) rfl (congrArg Value.bool (decide_eq_false (by rw [hs1]; omega))) ?_
          refine TF_y rfl rfl (Y_pick_f rfl rfl) ?_
          refine TF_y rfl rfl (Y_move rfl) ?_
          refine TF_gy rfl rfl rfl rfl (Y_field_addr rfl) ?_
          refine TF_gy rfl rfl rfl rfl (Y_load rfl rfl) ?_
          refine TF_gy rfl rfl rfl rfl (Y_move rfl) ?_
          refine TF_gy rfl rfl rfl rfl (Y_cut_str (k1 := .i64) (k2 := .i64) rfl (.inl ⟨rfl, rfl⟩) (.inr ⟨_, rfl, rfl⟩) (by omega)) ?_
          refine TF_name 138 (v' := .string (strOfNums (e.bytes.take m))) rfl (congrArg Value.string (str_cut e.bytes m)) ?_
          refine TF_gy rfl rfl rfl rfl (Y_field_addr rfl) ?_
          refine TF_gy rfl rfl rfl rfl (Y_load rfl rfl) ?_
          refine TF_gy rfl rfl rfl rfl (Y_str_ne rfl rfl) ?_
          refine TF_name 141 (v' := .bool false) rfl (congrArg Value.bool (decide_eq_false (fun h => h rfl))) ?_
          refine TF_y rfl rfl (Y_pick_f rfl rfl) ?_
          refine TF_y rfl rfl (Y_move rfl) ?_
          refine TF_gy rfl rfl rfl rfl (Y_field_addr rfl) ?_
          refine TF_gy rfl rfl rfl rfl (Y_load rfl rfl) ?_
          refine TF_gy rfl rfl rfl rfl (Y_move rfl) ?_
          refine TF_gy rfl rfl rfl rfl (Y_ne rfl rfl) ?_
          refine TF_name 147 (v' := .bool false) rfl (congrArg Value.bool (decide_eq_false (fun h => h rfl))) ?_
          refine TF_y rfl rfl (Y_pick_f rfl rfl) ?_
          refine TF_nil ?_
          refine T_cond_false rfl ?_
          refine T_skip ?_
          refine inB_normal ?_
          refine thenS_normal ?_
          refine T_region_last ?_
          refine TL_y rfl rfl (Y_move rfl) ?_
          refine TL_y rfl rfl (Y_add rfl rfl (by omega)) ?_
          refine TL_name 104 (v' := .int .i64 ((i + 1 : Nat) : Int)) rfl (rfl) ?_
          refine TL_y rfl rfl (Y_assign rfl) ?_
          refine TL_nil ?_
          refine thenS_normal ?_
          exact ⟨i + 1, (by omega), by omega, holds_to (sub_cons rfl (sub_cons rfl (sub_cons rfl (sub_nil)))) GivesTo.g⟩
        · refine RD_leaf _ [0, 0, 3, 7, 0, 0, 48, 112, 512, 0, 783, 2047] [] [(0, true), (1, true), (2, true), (3, true), (4, true), (5, true), (6, true), (7, true), (9, false), (8, false), (10, false), (11, false)] (by decide +kernel) (Gives.refl _) ?_
          refine TF_y rfl rfl (Y_move rfl) ?_
          refine TF_y rfl rfl (Y_move rfl) ?_
          refine TF_y rfl rfl (Y_index_n (R := fileR) (xs := VF s) rfl rfl rfl hf1) ?_
          refine TF_y rfl rfl (Y_load_naf (R := fileR) (c := c60) (xs := VF s) (q := 0) (vs := fileC (viewF e)) rfl sln hf1 rfl) ?_
          refine TF_y rfl rfl (Y_move rfl) ?_
          refine TF_y rfl rfl (Y_move rfl) ?_
          refine TF_y rfl rfl (Y_index_n (R := fileR) (xs := VF (crashK s keep)) rfl rfl rfl hf2) ?_
          refine TF_y rfl rfl (Y_load_naf (R := fileR) (c := c93) (xs := VF (crashK s keep)) (q := 0) (vs := fileC (viewF ⟨e.name, e.blk, e.bytes.take m, (m : Int)⟩)) rfl sln hf2 rfl) ?_
          refine TF_anchor rfl ?_
          refine TL_alloc rfl rfl ?_
          intro b15
          refine TF_end GivesTo.g ?_
          refine TF_anchor rfl ?_
          refine TL_alloc rfl rfl ?_
          intro b14
          refine TF_end GivesTo.g ?_
          refine TF_anchor rfl ?_
          refine TL_store rfl rfl rfl rfl rfl rfl ?_
          refine TF_end GivesTo.g ?_
          refine TF_anchor rfl ?_
          refine TL_store rfl rfl rfl rfl rfl rfl ?_
          refine TF_end GivesTo.g ?_
          refine TF_nil ?_
          refine thenS_normal ?_
          refine T_region ?_
          refine TL_y rfl rfl (Y_field_addr rfl) ?_
          refine TL_y rfl rfl (Y_load rfl rfl) ?_
          refine TL_y rfl rfl (Y_len_str rfl) ?_
          refine TL_name 115 (v' := .int .i64 (m : Int)) rfl (by rw [show (viewF ⟨e.name, e.blk, e.bytes.take m, (m : Int)⟩).bytes.size = m from hs2]) ?_
          refine TL_y rfl rfl (Y_assign rfl) ?_
          refine TL_nil ?_
          refine T_region_draw _ [0, 1, 0, 4, 15, 31, 63, 63, 191, 511, 1023, 2047, 4095, 4095, 12287, 28671, 65535, 131071, 262143, 524287, 1048575, 524287, 4194303, 524287, 8912895, 33554431, 67108863, 134217727, 268435455, 536870911, 268435455, 2147483647, 4294967295] [] [(0, true), (1, true), (2, true), (3, true), (4, true), (5, true), (6, true), (7, true), (8, true), (9, true), (10, true), (11, true), (12, true), (13, true), (14, true), (15, true), (16, true), (17, true), (18, true), (19, true), (20, true), (21, true), (22, true), (23, true), (24, true), (25, true), (26, true), (27, true), (28, true), (29, true), (30, true), (31, true), (32, true)] (by kernel_rfl) (by decide +kernel) (Gives.refl _) ?_
          refine TF_y rfl rfl (Y_field_addr rfl) ?_
          refine TF_y rfl rfl (Y_load rfl rfl) ?_
          refine TF_y rfl rfl (Y_field_addr rfl) ?_
          refine TF_y rfl rfl (Y_load rfl rfl) ?_
          refine TF_y rfl rfl (Y_str_ne rfl rfl) ?_
          refine TF_name 120 (v' := .bool false) rfl (congrArg Value.bool (decide_eq_false (fun h => h rfl))) ?_
          refine TF_y rfl rfl (Y_move rfl) ?_
          refine TF_gy rfl rfl rfl rfl (Y_move rfl) ?_
          refine TF_gy rfl rfl rfl rfl (Y_field_addr rfl) ?_
          refine TF_gy rfl rfl rfl rfl (Y_load rfl rfl) ?_
          refine TF_gy rfl rfl rfl rfl (Y_lt rfl rfl) ?_
          refine TF_name 125 (v' := .bool false) rfl (congrArg Value.bool (decide_eq_false (by show ¬ (m : Int) < e.synced; omega))) ?_
          refine TF_y rfl rfl (Y_pick_f rfl rfl) ?_
          refine TF_y rfl rfl (Y_move rfl) ?_
          refine TF_gy rfl rfl rfl rfl (Y_move rfl) ?_
          refine TF_gy rfl rfl rfl rfl (Y_field_addr rfl) ?_
          refine TF_gy rfl rfl rfl rfl (Y_load rfl rfl) ?_
          refine TF_gy rfl rfl rfl rfl (Y_len_str rfl) ?_
          refine TF_gy rfl rfl rfl rfl (Y_gt rfl rfl) ?_
          refine TF_name 132 (v' := .bool false) rfl (congrArg Value.bool (decide_eq_false (by rw [hs1]; omega))) ?_
          refine TF_y rfl rfl (Y_pick_f rfl rfl) ?_
          refine TF_y rfl rfl (Y_move rfl) ?_
          refine TF_gy rfl rfl rfl rfl (Y_field_addr rfl) ?_
          refine TF_gy rfl rfl rfl rfl (Y_load rfl rfl) ?_
          refine TF_gy rfl rfl rfl rfl (Y_move rfl) ?_
          refine TF_gy rfl rfl rfl rfl (Y_cut_str (k1 := .i64) (k2 := .i64) rfl (.inl ⟨rfl, rfl⟩) (.inr ⟨_, rfl, rfl⟩) (by omega)) ?_
          refine TF_name 138 (v' := .string (strOfNums (e.bytes.take m))) rfl (congrArg Value.string (str_cut e.bytes m)) ?_
          refine TF_gy rfl rfl rfl rfl (Y_field_addr rfl) ?_
          refine TF_gy rfl rfl rfl rfl (Y_load rfl rfl) ?_
          refine TF_gy rfl rfl rfl rfl (Y_str_ne rfl rfl) ?_
          refine TF_name 141 (v' := .bool false) rfl (congrArg Value.bool (decide_eq_false (fun h => h rfl))) ?_
          refine TF_y rfl rfl (Y_pick_f rfl rfl) ?_
          refine TF_y rfl rfl (Y_move rfl) ?_
          refine TF_gy rfl rfl rfl rfl (Y_field_addr rfl) ?_
          refine TF_gy rfl rfl rfl rfl (Y_load rfl rfl) ?_
          refine TF_gy rfl rfl rfl rfl (Y_move rfl) ?_
          refine TF_gy rfl rfl rfl rfl (Y_ne rfl rfl) ?_
          refine TF_name 147 (v' := .bool false) rfl (congrArg Value.bool (decide_eq_false (fun h => h rfl))) ?_
          refine TF_y rfl rfl (Y_pick_f rfl rfl) ?_
          refine TF_nil ?_
          refine T_cond_false rfl ?_
          refine T_skip ?_
          refine inB_normal ?_
          refine thenS_normal ?_
          refine T_region_last ?_
          refine TL_y rfl rfl (Y_move rfl) ?_
          refine TL_y rfl rfl (Y_add rfl rfl (by omega)) ?_
          refine TL_name 104 (v' := .int .i64 ((i + 1 : Nat) : Int)) rfl (rfl) ?_
          refine TL_y rfl rfl (Y_assign rfl) ?_
          refine TL_nil ?_
          refine thenS_normal ?_
          exact ⟨i + 1, (by omega), by omega, holds_to (sub_cons rfl (sub_cons rfl (sub_cons rfl (sub_nil)))) GivesTo.g⟩
      · refine T_exit ?_
        refine thenS_exit ?_
        refine thenS_exit ?_
        refine inB_hit ?_
        refine thenS_normal ?_
        refine T_region ?_
        refine TL_y rfl rfl (Y_assign rfl) ?_
        refine TL_nil ?_
        refine T_ret ?_
        exact RetG_1 (.inl rfl) rfl (ResV.tmp rfl) GivesTo.g (⟨rfl, rfl⟩)
    · rw [if_neg hck, if_neg hck]
      refine T_region ?_
      refine TL_y rfl rfl (Y_move rfl) ?_
      refine TL_y rfl rfl (Y_ne rfl rfl) ?_
      refine TL_name 65 (v' := .bool true) rfl (congrArg Value.bool (by decide)) ?_
      refine TL_nil ?_
      refine T_cond_true rfl ?_
      refine T_region ?_
      refine TL_y rfl rfl (Y_move rfl) ?_
      refine TL_call rfl rfl (diskFiles_spec) ?_
      rintro _ _ ⟨A67, c67, rfl, rfl⟩
      refine TL_freeze_osl ?_
      refine TL_y rfl rfl (Y_assign rfl) ?_
      refine TL_nil ?_
      refine T_seq ?_
      refine T_region ?_
      refine TL_y rfl rfl (Y_move rfl) ?_
      refine TL_y rfl rfl (Y_ne rfl rfl) ?_
      refine TL_name 69 (v' := .bool false) rfl (congrArg Value.bool (by decide)) ?_
      refine TL_y rfl rfl (Y_move rfl) ?_
      refine TL_grun rfl rfl ?_
      refine TL_y rfl rfl (Y_move rfl) ?_
      refine TL_grun rfl rfl ?_
      refine TL_y rfl rfl (Y_len rfl) ?_
      refine TL_grun rfl rfl ?_
      refine TL_y rfl rfl (Y_move rfl) ?_
      refine TL_grun rfl rfl ?_
      refine TL_y rfl rfl (Y_len rfl) ?_
      refine TL_grun rfl rfl ?_
      refine TL_y rfl rfl (Y_ne rfl rfl) ?_
      refine TL_name 75 (v' := .bool false) rfl (congrArg Value.bool (by simp)) ?_
      refine TL_y rfl rfl (Y_pick_f rfl rfl) ?_
      refine TL_nil ?_
      refine T_cond_false rfl ?_
      refine T_skip ?_
      refine thenS_normal ?_
      refine T_seq ?_
      refine T_region ?_
      refine TL_y rfl rfl (Y_assign rfl) ?_
      refine TL_nil ?_
      refine T_block ?_
      refine T_loopK (σ := Nat) [8, 10] (fun i => i ≤ (VF s).length) (fun i kv => (11, .int .i64 (i : Int)) :: kv) (fun i => sl fileR A67 c67 (VF s) :: sl fileR A60 c60 (VF s) :: dk b bt s :: L) (fun i => (VF s).length - i) (0) rfl (Nat.zero_le _) (GivesTo.g) (sub_cons rfl (sub_cons rfl (sub_cons rfl (sub_nil)))) ?_
      intro i hil2
      refine T_seq ?_
      refine T_region ?_
      refine TL_y rfl rfl (Y_move rfl) ?_
      refine TL_y rfl rfl (Y_move rfl) ?_
      refine TL_y rfl rfl (Y_len rfl) ?_
      refine TL_y rfl rfl (Y_lt rfl rfl) ?_
      refine TL_nil ?_
      refine T_if rfl (fun h80 => ?_) (fun h80 => ?_)
      · refine T_skip ?_
        refine thenS_normal ?_
        refine T_seq ?_
        refine T_block ?_
        obtain ⟨f, hf⟩ : ∃ f, (VF s)[i]? = some f := ⟨_, List.getElem?_eq_getElem (by omega)⟩
        refine T_addr_n (sln (A := A67) (c := c67) (R := fileR) (xs := VF s)) hf fun b1 o1 eq1 => ?_
        subst eq1
        refine T_addr_n (sln (A := A60) (c := c60) (R := fileR) (xs := VF s)) hf fun b2 o2 eq2 => ?_
        subst eq2
        refine T_region_draw _ [0, 0, 3, 7, 0, 0, 48, 112, 255] [] [(0, true), (1, true), (2, true), (3, true), (4, true), (5, true), (6, true), (7, true), (8, true)] (by kernel_rfl) (by decide +kernel) (Gives.refl _) ?_
        refine TF_y rfl rfl (Y_move rfl) ?_
        refine TF_y rfl rfl (Y_move rfl) ?_
        refine TF_y rfl rfl (Y_index_n (R := fileR) (xs := VF s) rfl rfl rfl hf) ?_
        refine TF_y rfl rfl (Y_load_naf (R := fileR) (c := c67) (xs := VF s) (q := 0) (vs := fileC f) rfl sln hf rfl) ?_
        refine TF_y rfl rfl (Y_move rfl) ?_
        refine TF_y rfl rfl (Y_move rfl) ?_
        refine TF_y rfl rfl (Y_index_n (R := fileR) (xs := VF s) rfl rfl rfl hf) ?_
        refine TF_y rfl rfl (Y_load_naf (R := fileR) (c := c60) (xs := VF s) (q := 0) (vs := fileC f) rfl sln hf rfl) ?_
        refine TF_y rfl rfl (Y_ne_file (a := f) (b := f) rfl rfl) ?_
        refine TF_name 91 (v' := .bool false) rfl (congrArg Value.bool (decide_eq_false (fun h => h rfl))) ?_
        refine TF_nil ?_
        refine T_cond_false rfl ?_
        refine T_skip ?_
        refine inB_normal ?_
        refine thenS_normal ?_
        refine T_region_last ?_
        refine TL_y rfl rfl (Y_move rfl) ?_
        refine TL_y rfl rfl (Y_add rfl rfl (by omega)) ?_
        refine TL_name 82 (v' := .int .i64 ((i + 1 : Nat) : Int)) rfl (rfl) ?_
        refine TL_y rfl rfl (Y_assign rfl) ?_
        refine TL_nil ?_
        refine thenS_normal ?_
        exact ⟨i + 1, (by omega), by omega, holds_to (sub_cons rfl (sub_cons rfl (sub_cons rfl (sub_nil)))) GivesTo.g⟩
      · refine T_exit ?_
        refine thenS_exit ?_
        refine thenS_exit ?_
        refine inB_hit ?_
        refine thenS_normal ?_
        refine T_region ?_
        refine TL_y rfl rfl (Y_assign rfl) ?_
        refine TL_nil ?_
        refine T_ret ?_
        refine thenS_ret ?_
        exact RetG_1 (.inl rfl) rfl (ResV.tmp rfl) GivesTo.g (⟨rfl, rfl⟩)
end Go.SL
set_option linter.unusedVariables false
set_option linter.unusedSimpArgs false
namespace Go.SL
open Go Go.RowKit Go.ChangeShapes Go.WideShapes

theorem list_of {α : Type} {p : Nat → α → Prop} : ∀ (n : Nat), (∀ i, i < n → ∃ a, p i a) → ∃ xs : List α, xs.length = n ∧ ∀ i a, xs[i]? = some a → p i a
  | 0, _ => ⟨[], rfl, fun i a h => by simp at h⟩
  | n + 1, h => by
    obtain ⟨xs, h1, h2⟩ := list_of n (fun i hi => h i (by omega))
    obtain ⟨a, ha⟩ := h n (by omega)
    refine ⟨xs ++ [a], by simp [h1], fun i b hb => ?_⟩
    by_cases hi : i < xs.length
    · rw [List.getElem?_append_left hi] at hb; exact h2 i b hb
    · rw [List.getElem?_append_right (by omega)] at hb
      have : i = n := by
        have := (List.getElem?_eq_some_iff.1 hb).1
        simp at this; omega
      subst this
      rw [h1] at hb
      simp at hb
      subst hb; exact ha
theorem mapM_at {α β : Type} {f : α → Option β} : ∀ {l : List α} {r : List β}, l.mapM f = some r → r.length = l.length ∧ ∀ (i : Nat) (x : α), l[i]? = some x → f x = r[i]?
  | [], r, h => by simp at h; subst h; simp
  | x :: l, r, h => by
    simp only [List.mapM_cons] at h
    cases e : f x with
    | none => rw [e] at h; cases h
    | some y =>
      rw [e] at h
      cases e2 : l.mapM f with
      | none => rw [e2] at h; cases h
      | some r' =>
        rw [e2] at h
        cases h
        obtain ⟨h1, h2⟩ := mapM_at e2
        refine ⟨by simp [h1], fun i z hz => ?_⟩
        cases i with
        | zero => simp at hz; subst hz; simpa using e
        | succ i => simpa using h2 i z (by simpa using hz)

/-- A way to count what is read: each value, each letter. -/
structure Bulk (H : Type) where
  f : DataW H → Nat
  one : ∀ d, 1 ≤ f d
  str : ∀ b, b.length + 1 ≤ f (.lit (.string b))
  slice : ∀ e s, (e.map f).sum + 1 ≤ f (.slice e s)
  agg : ∀ ps, (ps.map f).sum + 1 ≤ f (.agg ps)
  ptr : ∀ d, f d + 1 ≤ f (.ptr d)
/-- What is read of type t, of whatever world, is laid as R tells, and bears φ; μ counts it. -/
def Reads {α : Type} (P : Program) (t : TypeId) (R : Rep α) (φ : α → Prop) (μ : α → Nat) : Prop :=
  ∀ (H : Type) (enc : TypeId × Value → H) (W : World) (held : Bool) (fuel : Nat) (cs : List Value) (d : DataW H) (ps : List MemPlace), DataW.trod enc P W 0 (fun _ => true) held fuel t cs = some (d, ps) → (∀ n ∈ d.weights P t, n ≤ reachBytes) →
    ∃ a, R.rep (heapOf W) a cs ∧ φ a ∧ ∀ B : Bulk H, μ a ≤ B.f d
theorem reach_eq : reachBytes = 140737488351232 := rfl
section
variable {P : Program} {t e : TypeId}
theorem wf_in {k : IntKind} {n : Int} (h : (Lit.int k n).wf = true) : intIn k n := by
  simp only [Lit.wf, Bool.and_eq_true, decide_eq_true_eq] at h
  exact h
theorem reads_int {k : IntKind} (ht : P.underlying t = some (.int k)) : Reads P t (intR k) (fun _ => True) (fun _ => 1) := fun H enc W held fuel cs d ps h hw => by
  obtain ⟨n, rfl, hx, hwf⟩ := DataW.trod_int ht h
  exact ⟨n, ⟨rfl, wf_in hwf⟩, trivial, fun B => B.one d⟩
theorem reads_str (ht : P.underlying t = some .string) : Reads P t strR (fun s => s.size ≤ 140737488351232) (fun s => s.size + 1) := fun H enc W held fuel cs d ps h hw => by
  obtain ⟨s, rfl, hx, hs⟩ := DataW.trod_string ht h
  cases hx
  have := hw s.data.toList.length (by simp [DataW.weights])
  rw [reach_eq] at this
  have hsz : s.size = s.data.toList.length := Lib.size_eq s
  exact ⟨s, ⟨rfl, by rw [hsz]; simp only [maxEl]; omega⟩, by show s.size ≤ _; rw [hsz]; exact this, fun B => by show s.size + 1 ≤ _; rw [hsz]; exact B.str _⟩
/-- A slice, of whatever address. -/
def sliceR {α : Type} (R : Rep α) : Rep (List α) := ⟨1, fun M xs cs => ∃ A c, cs = [.slice A xs.length c] ∧ sliceAt M R A c xs, fun hM ⟨A, c, e, h⟩ => ⟨A, c, e, h.mono hM⟩, fun ⟨A, c, e, h⟩ => by rw [e]; rfl, fun ⟨A, c, e, h⟩ v hv => by rw [e] at hv; simp at hv; subst hv; rfl⟩
theorem weightsAll_mem {H : Type} {d : DataW H} {n : Nat} : ∀ {l : List (DataW H)}, d ∈ l → n ∈ d.weights P e → n ∈ DataW.weightsAll P e l
  | x :: l, hd, hn => by
    simp only [DataW.weightsAll, List.mem_append]
    rcases List.mem_cons.1 hd with rfl | hd
    · exact .inl hn
    · exact .inr (weightsAll_mem hd hn)
  | [], hd, _ => by cases hd
theorem sum_le_sum {α β : Type} {f : α → Nat} {g : β → Nat} : ∀ {xs : List α} {ys : List β}, xs.length = ys.length → (∀ (i : Nat) (x : α) (y : β), xs[i]? = some x → ys[i]? = some y → f x ≤ g y) → (xs.map f).sum ≤ (ys.map g).sum
  | [], [], _, _ => by simp
  | x :: xs, y :: ys, hl, h => by
    have h0 := h 0 x y rfl rfl
    have ih := sum_le_sum (xs := xs) (ys := ys) (by simpa using hl) (fun i a b ha hb => h (i + 1) a b (by simpa using ha) (by simpa using hb))
    simp only [List.map_cons, List.sum_cons]
    omega
  | [], _ :: _, hl, _ => by simp at hl
  | _ :: _, [], hl, _ => by simp at hl
theorem reads_slice {α : Type} {R : Rep α} {φ : α → Prop} {μ : α → Nat} (ht : P.underlying t = some (.slice e)) (hsz : P.cellsOf e = R.sz) (h0 : 0 < R.sz) (hb : 0 < P.bytesOf e) (he : Reads P e R φ μ) : Reads P t (sliceR R) (fun xs => xs.length * P.bytesOf e ≤ 140737488351232 ∧ ∀ x ∈ xs, φ x) (fun xs => (xs.map μ).sum + 1) := fun H enc W held fuel cs d ps h hw => by
  rcases DataW.trod_slice ht h with ⟨rfl, hx⟩ | ⟨a, len, cap, elems, rest, n, rfl, rfl, hx, _, hl, hm, hlen, hel, hsp, _⟩
  · exact ⟨[], ⟨none, 0, rfl, sliceAt.nil _ _ _ _⟩, ⟨by simp, fun x hx => by cases hx⟩, fun B => B.one d⟩
  · cases hx
    have hwt : ∀ n ∈ ((elems.map (·.1)).length + (rest.map (·.1)).length) * P.bytesOf e :: (DataW.weightsAll P e (elems.map (·.1)) ++ DataW.weightsAll P e (rest.map (·.1))), n ≤ reachBytes := by
      intro n hn; exact hw n (by simpa [DataW.weights, ht] using hn)
    have hbound : len * P.bytesOf e ≤ 140737488351232 := by
      have := hwt _ (List.mem_cons_self)
      rw [reach_eq] at this
      simp only [List.length_map, hlen] at this
      exact Nat.le_trans (Nat.mul_le_mul_right _ (by omega)) this
    have hle : len ≤ 140737488351232 := Nat.le_trans (Nat.le_mul_of_pos_right _ hb) hbound
    have hall : ∀ i, i < len → ∃ x : α, ((∃ l, R.rep (heapOf W) x l ∧ ∀ j v, l[j]? = some v → W.cell? ((a.add (i * R.sz)).add j) = some v) ∧ φ x) ∧ ∀ y, elems[i]? = some y → ∀ B : Bulk H, μ x ≤ B.f y.1 := by
      intro i hi
      have h1 := hel i hi
      rw [hsz, List.getElem?_eq_getElem (by omega)] at h1
      cases hc : World.cells? W 0 (a.add (i * R.sz)) R.sz with
      | none => rw [hc] at h1; cases h1
      | some cs' =>
        rw [hc] at h1
        simp only [Option.bind_some] at h1
        obtain ⟨x, hx1, hx2, hx3⟩ := he H enc W held n cs' (elems[i]'(by omega)).1 (elems[i]'(by omega)).2 h1 (fun k hk => hwt k (List.mem_cons_of_mem _ (List.mem_append_left _ (weightsAll_mem (List.mem_map.2 ⟨_, List.getElem_mem (by omega), rfl⟩) hk))))
        refine ⟨x, ⟨⟨cs', hx1, fun j v hj => ?_⟩, hx2⟩, fun y hy B => by rw [List.getElem?_eq_getElem (by omega)] at hy; cases hy; exact hx3 B⟩
        simp only [World.cells?, Nat.zero_le, if_true] at hc
        obtain ⟨g1, g2⟩ := mapM_at hc
        have hjl := (List.getElem?_eq_some_iff.1 hj).1
        have := g2 j j (by rw [List.getElem?_range (by simpa [g1] using hjl)])
        rw [this, hj]
    obtain ⟨xs, hxl, hxs⟩ := list_of len hall
    subst hxl
    refine ⟨xs, ⟨some a, cap, rfl, hl, by simp only [maxEl]; omega, ?_⟩, ⟨hbound, fun x hx => let ⟨i, hi⟩ := List.getElem?_of_mem hx; (hxs i x hi).1.2⟩, fun B => ?_⟩
    · cases xs with
      | nil => exact .inl rfl
      | cons x0 xs =>
        right
        obtain ⟨⟨⟨l0, hr0, hc0⟩, _⟩, _⟩ := hxs 0 x0 rfl
        have hl0 := R.len hr0
        obtain ⟨v0, hv0⟩ : ∃ v, l0[0]? = some v := ⟨_, List.getElem?_eq_getElem (by omega)⟩
        have h00 := hc0 0 v0 hv0
        obtain ⟨b, off, spot⟩ := a
        have hspot : spot = none := by simpa [Addr.add] using World.cell?_spot h00
        subst hspot
        obtain ⟨c, t', fr, hblk⟩ : ∃ c t' fr, W.heap[b]? = some (.cells c t' fr) := by
          simp only [World.cell?, Addr.add_plain] at h00
          split at h00
          · exact ⟨_, _, _, by assumption⟩
          · cases h00
        refine ⟨b, off, rfl, c, t', fr, hblk, fun i x hi => ?_⟩
        obtain ⟨⟨⟨l, hr, hc⟩, _⟩, _⟩ := hxs i x hi
        refine ⟨l, hr, fun j v hj => ?_⟩
        have := hc j v hj
        rw [Addr.add_plain, Addr.add_plain, cell_of hblk] at this
        exact this
    · refine Nat.le_trans ?_ (B.slice _ _)
      have := sum_le_sum (f := μ) (g := fun y : DataW H × List MemPlace => B.f y.1) (xs := xs) (ys := elems) hlen.symm (fun i x y hx hy => (hxs i x hx).2 y hy B)
      simp only [List.map_map]
      show (xs.map μ).sum + 1 ≤ _
      have e2 : (B.f ∘ fun x : DataW H × List MemPlace => x.1) = fun y => B.f y.1 := rfl
      rw [e2]
      omega
/-- One argument. -/
theorem arg_reads {α : Type} {R : Rep α} {φ : α → Prop} {μ : α → Nat} (hr : Reads P t R φ μ) {H : Type} {enc : TypeId × Value → H} {W : World} {v : Value} {d : DataW H} {ps : List MemPlace} (h : DataW.Trod enc P W 0 (fun _ => true) true t v d ps) (hw : ∀ n ∈ d.weights P t, n ≤ reachBytes) : ∃ a, R.rep (heapOf W) a v.cells.toList ∧ φ a ∧ ∀ B : Bulk H, μ a ≤ B.f d :=
  let ⟨fuel, h⟩ := h
  hr H enc W true fuel _ d ps h hw
theorem arg_slice {α : Type} {R : Rep α} {φ : List α → Prop} {μ : List α → Nat} (ht : P.underlying t = some (.slice e)) (hr : Reads P t (sliceR R) φ μ) {H : Type} {enc : TypeId × Value → H} {W : World} {base : Nat} {v : Value} {d : DataW H} {ps : List MemPlace} (hval : Value.okWide P W .any base t v) (h : DataW.Trod enc P W 0 (fun _ => true) true t v d ps) (hw : ∀ n ∈ d.weights P t, n ≤ reachBytes) :
    ∃ A c xs, v = .slice A xs.length c ∧ sliceAt (heapOf W) R A c xs ∧ φ xs ∧ ∀ B : Bulk H, μ xs ≤ B.f d := by
  obtain ⟨A, n, c, rfl⟩ := okWide_slice ht hval
  obtain ⟨xs, ⟨A', c', e, h1⟩, h2⟩ := arg_reads hr h hw
  simp only [Value.cells, List.cons.injEq, and_true] at e
  cases e
  exact ⟨_, _, xs, rfl, h1, h2⟩
end

section
variable {P : Program} {t : TypeId} {H : Type} {enc : TypeId × Value → H} {W : World} {held : Bool}
theorem weightsEach_mem {k : Nat} : ∀ {ts : List TypeId} {ds : List (DataW H)} {i : Nat} {t : TypeId} {d : DataW H}, ts[i]? = some t → ds[i]? = some d → k ∈ d.weights P t → k ∈ DataW.weightsEach P ts ds :=
  fun ht hd hk => DataW.weights_mem_each ht hd _ hk
/-- A record is read field by field. -/
theorem reads_fields {fs : Array Field} {fuel : Nat} {cs : List Value} {d : DataW H} {ps : List MemPlace} (ht : P.underlying t = some (.struct fs)) (h : DataW.trod enc P W 0 (fun _ => true) held fuel t cs = some (d, ps)) (hw : ∀ n ∈ d.weights P t, n ≤ reachBytes) :
    ∃ (ds : List (DataW H)) (n : Nat), d = .agg ds ∧ cs.length = P.cellsOf t ∧ ds.length = fs.size ∧ ∀ (i : Nat) (f : Field), fs[i]? = some f → ∃ d' ps', ds[i]? = some d' ∧ DataW.trod enc P W 0 (fun _ => true) held n f.type ((cs.drop f.offset).take (P.cellsOf f.type)) = some (d', ps') ∧ ∀ k ∈ d'.weights P f.type, k ≤ reachBytes := by
  obtain ⟨xs, n, _, hx, hl, hlen, hf⟩ := DataW.trod_struct ht h
  cases hx
  refine ⟨_, n, rfl, hl, by simp [hlen], fun i f hi => ?_⟩
  have hil : i < xs.length := by rw [hlen]; exact (Array.getElem?_eq_some_iff.1 hi).1
  have h1 := hf i f hi
  rw [List.getElem?_eq_getElem hil] at h1
  refine ⟨xs[i].1, xs[i].2, by simp [hil], h1, fun k hk => hw k ?_⟩
  simp only [DataW.weights, ht]
  exact weightsEach_mem (i := i) (t := f.type) (d := xs[i].1) (by simp [hi]) (by simp [hil]) hk
end
/-! ### What is kept -/
theorem sat_init {W : World} {L : List HP} (h : Sep L (heapOf W) Mem.emp) : Sat W W L := ⟨⟨heapOf W, Mem.emp, Mem.disj_symm (Mem.emp_disj _), Mem.le_refl _, Mem.emp_le _, h⟩, rfl, rfl, rfl, Nat.le_refl _⟩
theorem sep_nil {M : Mem} : Sep [] M Mem.emp := trivial
theorem sep_cons {M : Mem} {p : HP} {L : List HP} (h : p.holds M Mem.emp) (k : Sep L M Mem.emp) : Sep (p :: L) M Mem.emp := ⟨Mem.emp, Mem.emp, Mem.emp_disj _, Mem.le_refl _, Mem.le_refl _, h, k⟩
theorem below_of {W w' : World} {L : List HP} (h : Sat W w' (base (heapOf W) :: L)) : Below W.heap.size W w' := by
  obtain ⟨M, k, hd, hM, hk, h1, h2, hd', l1, l2, hp, hs⟩ := h.ex
  refine ⟨h.os, h.tape, h.output, h.size, fun j hj => ?_⟩
  have e : heapOf W j = some (W.heap[j]'hj) := Array.getElem?_eq_getElem hj
  have := hM _ _ (hp _ _ e)
  rw [Array.getElem?_eq_getElem hj]
  exact this
theorem law_calls {P : Program} {f : FuncId} {args : Array Value} {W : World} {L : List HP} (hs : Sep (base (heapOf W) :: L) (heapOf W) Mem.emp) (h : Fn P f args (base (heapOf W) :: L) (fun v L' => v = .bool true ∧ L' = base (heapOf W) :: L)) : Calls P f args W fun e W' => e = .returned (.bool true) ∧ Below W.heap.size W W' :=
  (h W W (sat_init hs)).mono fun e w' ⟨v, L', he, ⟨hv, hL⟩, hsat⟩ => by
    subst he; subst hv; subst hL
    exact ⟨rfl, below_of hsat⟩
theorem trodAll_below {H : Type} {enc : TypeId × Value → H} {P : Program} {W W' : World} (hl : laidOutB P = true) (hb : Below W.heap.size W W') : ∀ {ts : List TypeId} {vs : List Value} {ds : List (DataW H)} {ps : List MemPlace}, ts.all (fun t => P.readableRec t && decide (t < P.types.size)) = true → DataW.TrodAll enc P W 0 (fun _ => true) true ts vs ds ps → (∀ x ∈ ps, x.block < W.heap.size) →
    DataW.TrodAll enc P W' 0 (fun b => decide (b < W.heap.size)) true ts vs ds ps
  | [], _, _, _, _, h, _ => by
    obtain ⟨rfl, rfl, rfl⟩ := trodAll_nil h
    exact trodAll_mk0
  | t :: ts, vs, ds, ps, hts, h, hp => by
    obtain ⟨v, vs1, d, ds1, a, b, rfl, rfl, rfl, h1, h2⟩ := trodAll_cons h
    simp only [List.all_cons, Bool.and_eq_true, decide_eq_true_eq] at hts
    exact trodAll_cons_mk (Below.trod hl hts.1.1 hts.1.2 h1 hb (fun x hx => hp x (List.mem_append_left _ hx))) (trodAll_below hl hb hts.2 h2 (fun x hx => hp x (List.mem_append_right _ hx)))
theorem post_true {H : Type} {enc : TypeId × Value → H} {P : Program} {f : Func} {s : ChangeSpec} {apart fresh handsOn : Bool} {W W' : World} {args : Array Value} {ds gs : List (DataW H)} {before : List MemPlace} {tb : TypeId}
    (hW : DataW.Whole enc P f.params.toList s.vars apart W args.toList ds gs before) (hb : Below W.heap.size W W') (hl : laidOutB P = true) (hts : f.params.toList.all (fun t => P.readableRec t && decide (t < P.types.size)) = true) (hr : f.resultTypes = #[tb]) (htb : P.underlying tb = some .bool) (hv : s.vars = [])
    (hfn : s.fn H (ds ++ gs) = { results := [.lit (.bool true)], args := ds }) : s.post enc P f apart fresh handsOn false W args (.bool true) W' := by
  have hW' := hW
  obtain ⟨p, q, hA, hV, rfl, hfz, hnd⟩ := hW
  rw [hv] at hV
  obtain ⟨rfl, rfl⟩ := trodVars_none hV
  refine ⟨ds, [], p ++ [], [], p, [], hW', ?_, ?_, ?_, hb.frame _, fun h => by cases h⟩
  · rw [hfn, hr]
    exact trodAll_cons_mk (shut_bool htb true) trodAll_mk0
  · rw [hfn]
    exact trodAll_below hl hb hts hA (fun x hx => by simpa using hW'.lt x (by simpa using hx))
  · rw [hfn, hv]
    exact (by simp [DataW.TrodVars])
end Go.SL
set_option linter.unusedVariables false
namespace Go.SL
open Go Go.Proofs
theorem cells_ki : Try.prog.cellsOf 3 = 1 := by kernel_rfl
theorem cells_ks : Try.prog.cellsOf 9 = 1 := by kernel_rfl
theorem cells_kb : Try.prog.cellsOf 29 = 1 := by kernel_rfl
theorem cells_kt : Try.prog.cellsOf 23 = 1 := by kernel_rfl
theorem cells_torn : Try.prog.cellsOf 53 = 2 := by kernel_rfl
theorem cells_kop : Try.prog.cellsOf 31 = 6 := by kernel_rfl
theorem bytes_k8 : Try.prog.bytesOf 5 = 1 := by kernel_rfl
theorem bytes_torn : Try.prog.bytesOf 53 = 24 := by kernel_rfl
set_option maxRecDepth 100000 in
theorem reads_torn : Reads Try.prog 53 tornR (fun _ => True) (fun _ => 1) := fun H enc W held fuel cs d ps h hw => by
  obtain ⟨ds, n, rfl, hl, _, hf⟩ := reads_fields Try.underlying53 h hw
  rw [cells_torn] at hl
  match cs, hl with
  | [u, v], _ =>
  obtain ⟨d0, p0, _, h0, w0⟩ := hf 0 _ rfl
  obtain ⟨d1, p1, _, h1, w1⟩ := hf 1 _ rfl
  obtain ⟨x, ⟨e0, i0⟩, _⟩ := reads_str Try.underlying9 H enc W held n _ d0 p0 h0 w0
  obtain ⟨y, ⟨e1, i1⟩, _⟩ := reads_int Try.underlying3 H enc W held n _ d1 p1 h1 w1
  simp [cells_ks] at e0
  simp [cells_ki, cells_ks] at e1
  subst e0; subst e1
  exact ⟨(x, y), ⟨rfl, i0, i1⟩, trivial, fun B => B.one _⟩
theorem reads_bytes : Reads Try.prog 29 (sliceR (intR .u8)) (fun xs => xs.length ≤ 140737488351232) (fun _ => 1) := fun H enc W held fuel cs d ps h hw => by
  obtain ⟨xs, h1, h2, h3⟩ := reads_slice Try.underlying29 (R := intR .u8) (by kernel_rfl) (by decide) (by rw [bytes_k8]; decide) (reads_int Try.underlying5) H enc W held fuel cs d ps h hw
  rw [bytes_k8] at h2
  exact ⟨xs, h1, by have := h2.1; omega, fun B => B.one _⟩
theorem reads_torns : Reads Try.prog 23 (sliceR tornR) (fun xs => xs.length * 24 ≤ 140737488351232) (fun _ => 1) := fun H enc W held fuel cs d ps h hw => by
  obtain ⟨xs, h1, h2, h3⟩ := reads_slice Try.underlying23 (R := tornR) (by kernel_rfl) (by decide) (by rw [bytes_torn]; decide) reads_torn H enc W held fuel cs d ps h hw
  rw [bytes_torn] at h2
  exact ⟨xs, h1, h2.1, fun B => B.one _⟩
theorem sl_consK {α : Type} {R : Rep α} {A : Option Addr} {c : Nat} {xs : List α} {L : List HP} {M : Mem} (k : sliceAt M R A c xs) (h : Sep L M Mem.emp) : Sep (sl R A c xs :: L) M Mem.emp := ⟨Mem.emp, Mem.emp, Mem.emp_disj _, Mem.le_refl _, Mem.le_refl _, k, h⟩
set_option maxRecDepth 100000 in
theorem reads_op : Reads Try.prog 31 opR (fun _ => True) (fun _ => 1) := fun H enc W held fuel cs d ps h hw => by
  obtain ⟨ds, n, rfl, hl, hdl, hf⟩ := reads_fields Try.underlying31 h hw
  rw [cells_kop] at hl
  match cs, hl with
  | [u0, u1, u2, u3, u4, u5], _ =>
  obtain ⟨d0, p0, g0, h0, w0⟩ := hf 0 _ rfl
  obtain ⟨d1, p1, g1, h1, w1⟩ := hf 1 _ rfl
  obtain ⟨d2, p2, g2, h2, w2⟩ := hf 2 _ rfl
  obtain ⟨d3, p3, g3, h3, w3⟩ := hf 3 _ rfl
  obtain ⟨d4, p4, g4, h4, w4⟩ := hf 4 _ rfl
  obtain ⟨d5, p5, g5, h5, w5⟩ := hf 5 _ rfl
  obtain ⟨x0, ⟨e0, i0⟩, _, m0⟩ := reads_int Try.underlying3 H enc W held n _ d0 p0 h0 w0
  obtain ⟨x1, ⟨e1, i1⟩, _, m1⟩ := reads_str Try.underlying9 H enc W held n _ d1 p1 h1 w1
  obtain ⟨x2, ⟨e2, i2⟩, _, m2⟩ := reads_str Try.underlying9 H enc W held n _ d2 p2 h2 w2
  obtain ⟨x3, ⟨A3, c3, e3, i3⟩, k3, m3⟩ := reads_bytes H enc W held n _ d3 p3 h3 w3
  obtain ⟨x4, ⟨e4, i4⟩, _, m4⟩ := reads_int Try.underlying3 H enc W held n _ d4 p4 h4 w4
  obtain ⟨x5, ⟨A5, c5, e5, i5⟩, k5, m5⟩ := reads_torns H enc W held n _ d5 p5 h5 w5
  simp [cells_ki] at e0
  subst e0
  simp [cells_ks] at e1
  subst e1
  simp [cells_ks] at e2
  subst e2
  simp [cells_kb] at e3
  subst e3
  simp [cells_ki] at e4
  subst e4
  simp [cells_kt] at e5
  subst e5
  exact ⟨⟨x0, x1, x2, x3, x4, x5⟩, ⟨((A3, c3), (A5, c5)), rfl, sl_consK i3 (sl_consK i5 trivial), ⟨i0, i1, i2, k3, i4, k5⟩⟩, trivial, fun B => B.one _⟩
end Go.SL
