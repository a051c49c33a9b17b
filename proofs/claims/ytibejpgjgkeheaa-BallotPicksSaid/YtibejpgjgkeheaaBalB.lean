/- Ballots: more walks of the functions on votes. -/
import Derived.Test.YtibejpgjgkeheaaBalA
set_option linter.unusedVariables false
set_option linter.unusedSimpArgs false
namespace Go.SL
open Go Go.Proofs

def allTo (bs : List Bool) (n : Int) (k : Nat) : List Int := ((List.range k).filter fun i : Nat => decide (hasV bs n (i : Int))).map fun i : Nat => (i : Int)
theorem allTo_succ (bs : List Bool) (n : Int) (k : Nat) : allTo bs n (k + 1) = allTo bs n k ++ (if hasV bs n (k : Int) then [(k : Int)] else []) := by
  simp only [allTo, List.range_succ, List.filter_append, List.map_append]
  congr 1
  by_cases h : hasV bs n (k : Int) <;> simp [h]
theorem allTo_len (bs : List Bool) (n : Int) (k : Nat) : (allTo bs n k).length ≤ k := by
  have := List.length_filter_le (fun i : Nat => decide (hasV bs n (i : Int))) (List.range k)
  simpa [allTo] using this
/-- The nodes that voted. -/
def allV (bs : List Bool) (n : Int) : List Int := allTo bs n 7
theorem allV_none (n : Int) : allV (List.replicate 7 false) n = [] := by
  simp only [allV, allTo, List.map_eq_nil_iff, List.filter_eq_nil_iff]
  intro i hi h
  have := (of_decide_eq_true h).2
  rw [List.getElem?_replicate] at this
  split at this <;> simp at this

theorem all_spec {L : List HP} {b : Nat} {bs : List Bool} {n : Int} (hb : bs.length = 7) (hn : n ≤ 7) : Fn Try.prog 126 #[.pointer (some ⟨b, 0, none⟩)] (votes b bs n :: L) (fun v L' => ∃ A c, v = .slice A (allV bs n).length c ∧ L' = osl (intR .i64) 3 A c (allV bs n) :: votes b bs n :: L) := by
  refine Fn_enter Try.func126 rfl rfl rfl rfl ?_
  refine T_region ?_
  refine TL_y rfl rfl (Y_assign rfl) ?_
  refine TL_nil ?_
  refine T_region ?_
  refine TL_y rfl rfl (Y_assign rfl) ?_
  refine TL_nil ?_
  refine T_seq ?_
  refine T_region ?_
  refine TL_y rfl rfl (Y_move rfl) ?_
  refine TL_nil ?_
  refine T_block ?_
  refine T_loopK (σ := Nat × Option Addr × Nat) [0] (fun p => p.1 ≤ 7) (fun p kv => (5, .int .i64 (p.1 : Int)) :: (3, .slice p.2.1 (allTo bs n p.1).length p.2.2) :: kv) (fun p => osl (intR .i64) 3 p.2.1 p.2.2 (allTo bs n p.1) :: votes b bs n :: L) (fun p => 7 - p.1) ((0, none, 0)) rfl (Nat.zero_le _) (osl_nil _ _ _ _) (sub_cons rfl (sub_cons rfl (sub_cons rfl (sub_nil)))) ?_
  rintro ⟨i, A, c⟩ hi
  dsimp only at hi ⊢
  have hal := allTo_len bs n i
  have hsu := allTo_succ bs n i
  refine T_region ?_
  refine TL_y rfl rfl (Y_lt rfl rfl) ?_
  refine TL_nil ?_
  refine T_seq ?_
  refine T_if rfl (fun h6 => ?_) (fun h6 => ?_)
  · refine T_skip ?_
    refine thenS_normal ?_
    refine T_seq ?_
    refine T_block ?_
    refine T_region ?_
    refine TL_y rfl rfl (Y_move rfl) ?_
    refine TL_y rfl rfl (Y_assign rfl) ?_
    refine TL_nil ?_
    refine T_region ?_
    refine TL_y rfl rfl (Y_move rfl) ?_
    refine TL_y rfl rfl (Y_move rfl) ?_
    refine TL_pullc b ?_
    refine TL_call rfl rfl (has_spec hb hn (i : Int)) ?_
    rintro _ _ ⟨rfl, rfl⟩
    refine TL_nil ?_
    refine T_if rfl (fun h10 => ?_) (fun h10 => ?_)
    · refine T_region_last ?_
      refine TL_y rfl rfl (Y_move rfl) ?_
      refine TL_y rfl rfl (Y_move rfl) ?_
      refine TL_build_slice rfl rfl rfl rfl rfl rfl ?_
      intro b13
      refine TL_osl (k := 1) (intR .i64) [(i : Int)] (Knows.const fun M => cells_ints (k := .i64) (xs := [(i : Int)]) (by simpa using i64In_mk (by omega)) M) rfl (by simp) ?_
      refine TL_freeze_osl ?_
      refine TL_name 13 (v' := .slice (some ⟨b13, 0, none⟩) [(i : Int)].length 1) rfl rfl ?_
      refine TL_append rfl rfl rfl rfl rfl slk (by (try simp only [List.length_append, List.length_cons, List.length_nil]); omega) ?_
      intro A14 c14
      rw [show allTo bs n i ++ [(i : Int)] = allTo bs n (i + 1) by rw [hsu, if_pos h10]]
      refine TL_y rfl rfl (Y_assign rfl) ?_
      refine TL_nil ?_
      refine inB_normal ?_
      refine thenS_normal ?_
      refine T_region_last ?_
      refine TL_y rfl rfl (Y_add rfl rfl (by omega)) ?_
      refine TL_name 15 (v' := .int .i64 ((i + 1 : Nat) : Int)) rfl (rfl) ?_
      refine TL_y rfl rfl (Y_move rfl) ?_
      refine TL_nil ?_
      refine thenS_normal ?_
      exact ⟨(i + 1, A14, c14), (by simp only; omega), by simp only; omega, holds_to (sub_cons rfl (sub_cons rfl (sub_cons rfl (sub_nil)))) GivesTo.g⟩
    · refine T_skip ?_
      refine inB_normal ?_
      refine thenS_normal ?_
      refine T_region_last ?_
      refine TL_y rfl rfl (Y_add rfl rfl (by omega)) ?_
      refine TL_name 15 (v' := .int .i64 ((i + 1 : Nat) : Int)) rfl (rfl) ?_
      refine TL_y rfl rfl (Y_move rfl) ?_
      refine TL_nil ?_
      refine thenS_normal ?_
      rw [show allTo bs n i = allTo bs n (i + 1) by rw [hsu, if_neg h10]; simp]
      exact ⟨(i + 1, A, c), (by simp only; omega), by simp only; omega, holds_to (sub_cons rfl (sub_cons rfl (sub_cons rfl (sub_nil)))) GivesTo.g⟩
  · refine T_exit ?_
    refine thenS_exit ?_
    refine thenS_exit ?_
    refine inB_hit ?_
    refine thenS_normal ?_
    refine T_region ?_
    refine TL_y rfl rfl (Y_move rfl) ?_
    refine TL_y rfl rfl (Y_assign rfl) ?_
    refine TL_nil ?_
    refine T_ret ?_
    obtain rfl : i = 7 := by omega
    rw [show allTo bs n 7 = allV bs n from rfl]
    exact RetG_1 (.inl rfl) rfl (ResV.tmp rfl) GivesTo.g (⟨A, c, rfl, rfl⟩)
theorem all_nil_spec (L : List HP) : Fn Try.prog 126 #[.pointer none] L (fun v L' => v = .slice none 0 0 ∧ L' = L) := by
  refine Fn_enter Try.func126 rfl rfl rfl rfl ?_
  refine T_region ?_
  refine TL_y rfl rfl (Y_assign rfl) ?_
  refine TL_nil ?_
  refine T_region ?_
  refine TL_y rfl rfl (Y_assign rfl) ?_
  refine TL_nil ?_
  refine T_seq ?_
  refine T_region ?_
  refine TL_y rfl rfl (Y_move rfl) ?_
  refine TL_nil ?_
  refine T_block ?_
  refine T_loopK (σ := Nat) [0] (fun i => i ≤ 7) (fun i kv => (5, .int .i64 (i : Int)) :: (3, .slice none 0 0) :: kv) (fun i => L) (fun i => 7 - i) (0) rfl (Nat.zero_le _) (GivesTo.g) (sub_cons rfl (sub_cons rfl (sub_cons rfl (sub_nil)))) ?_
  intro i hi
  refine T_region ?_
  refine TL_y rfl rfl (Y_lt rfl rfl) ?_
  refine TL_nil ?_
  refine T_seq ?_
  refine T_if rfl (fun h6 => ?_) (fun h6 => ?_)
  · refine T_skip ?_
    refine thenS_normal ?_
    refine T_seq ?_
    refine T_block ?_
    refine T_region ?_
    refine TL_y rfl rfl (Y_move rfl) ?_
    refine TL_y rfl rfl (Y_assign rfl) ?_
    refine TL_nil ?_
    refine T_region ?_
    refine TL_y rfl rfl (Y_move rfl) ?_
    refine TL_y rfl rfl (Y_move rfl) ?_
    refine TL_call rfl rfl (has_nil_spec _ _) ?_
    rintro _ _ ⟨rfl, rfl⟩
    refine TL_name 10 (v' := .bool false) rfl (rfl) ?_
    refine TL_nil ?_
    refine T_cond_false rfl ?_
    refine T_skip ?_
    refine inB_normal ?_
    refine thenS_normal ?_
    refine T_region_last ?_
    refine TL_y rfl rfl (Y_add rfl rfl (by omega)) ?_
    refine TL_name 15 (v' := .int .i64 ((i + 1 : Nat) : Int)) rfl (rfl) ?_
    refine TL_y rfl rfl (Y_move rfl) ?_
    refine TL_nil ?_
    refine thenS_normal ?_
    exact ⟨i + 1, (by omega), by omega, holds_to (sub_cons rfl (sub_cons rfl (sub_cons rfl (sub_nil)))) GivesTo.g⟩
  · refine T_exit ?_
    refine thenS_exit ?_
    refine thenS_exit ?_
    refine inB_hit ?_
    refine thenS_normal ?_
    refine T_region ?_
    refine TL_y rfl rfl (Y_move rfl) ?_
    refine TL_y rfl rfl (Y_assign rfl) ?_
    refine TL_nil ?_
    refine T_ret ?_
    exact RetG_1 (.inl rfl) rfl (ResV.tmp rfl) GivesTo.g (⟨rfl, rfl⟩)

theorem count_spec {L : List HP} {b : Nat} {bs : List Bool} {n : Int} (hb : bs.length = 7) (hn : n ≤ 7) : Fn Try.prog 95 #[.pointer (some ⟨b, 0, none⟩)] (votes b bs n :: L) (fun v L' => v = .int .i64 ((allV bs n).length : Int) ∧ L' = votes b bs n :: L) := by
  refine Fn_enter Try.func95 rfl rfl rfl rfl ?_
  refine T_region ?_
  refine TL_y rfl rfl (Y_assign rfl) ?_
  refine TL_nil ?_
  refine T_seq ?_
  refine T_region ?_
  refine TL_y rfl rfl (Y_move rfl) ?_
  refine TL_y rfl rfl (Y_equal rfl rfl (EqIs.ptr_nil)) ?_
  refine TL_name 4 (v' := .bool false) rfl (congrArg Value.bool (by simp)) ?_
  refine TL_y rfl rfl (Y_move rfl) ?_
  refine TL_grun rfl rfl ?_
  refine TL_y rfl rfl (Y_move rfl) ?_
  refine TL_grun rfl rfl ?_
  refine TL_y rfl rfl (Y_nil_check rfl) ?_
  refine TL_grun rfl rfl ?_
  refine TL_y rfl rfl (Y_field_addr rfl) ?_
  refine TL_grun rfl rfl ?_
  refine TL_y rfl rfl (Y_load_agg rfl (vc_cut hb)) ?_
  refine TL_grun rfl rfl ?_
  refine TL_y rfl rfl (Y_build_arr rfl rfl) ?_
  refine TL_name 10 (v' := .agg ((List.replicate 7 false).map Value.bool).toArray) rfl (rfl) ?_
  refine TL_grun rfl rfl ?_
  refine TL_y rfl rfl (Y_eq_bools (by kernel_rfl) rfl rfl hb rfl) ?_
  refine TL_y rfl rfl (Y_pick_f rfl rfl) ?_
  refine TL_nil ?_
  refine T_if rfl (fun h12 => ?_) (fun h12 => ?_)
  · refine T_region ?_
    refine TL_y rfl rfl (Y_assign rfl) ?_
    refine TL_nil ?_
    refine T_ret ?_
    refine thenS_ret ?_
    exact RetG_1 (.inl rfl) rfl (ResV.tmp rfl) GivesTo.g (⟨by rw [h12, allV_none]; rfl, rfl⟩)
  · refine T_skip ?_
    refine thenS_normal ?_
    refine T_region ?_
    refine TL_y rfl rfl (Y_move rfl) ?_
    refine TL_call rfl rfl (all_spec hb hn) ?_
    rintro _ _ ⟨A14, c14, rfl, rfl⟩
    refine TL_y rfl rfl (Y_len rfl) ?_
    refine TL_y rfl rfl (Y_assign rfl) ?_
    refine TL_nil ?_
    refine T_ret ?_
    exact RetG_1 (.inl rfl) rfl (ResV.tmp rfl) GivesTo.g (⟨rfl, rfl⟩)
theorem count_nil_spec (L : List HP) : Fn Try.prog 95 #[.pointer none] L (fun v L' => v = .int .i64 0 ∧ L' = L) := by
  refine Fn_enter Try.func95 rfl rfl rfl rfl ?_
  refine T_region ?_
  refine TL_y rfl rfl (Y_assign rfl) ?_
  refine TL_nil ?_
  refine T_seq ?_
  refine T_region ?_
  refine TL_y rfl rfl (Y_move rfl) ?_
  refine TL_y rfl rfl (Y_equal rfl rfl (EqIs.ptr_nil)) ?_
  refine TL_name 4 (v' := .bool true) rfl (congrArg Value.bool (by simp)) ?_
  refine TL_y rfl rfl (Y_move rfl) ?_
  refine TL_gskip rfl rfl rfl rfl ?_
  refine TL_gskip rfl rfl rfl rfl ?_
  refine TL_gskip rfl rfl rfl rfl ?_
  refine TL_gskip rfl rfl rfl rfl ?_
  refine TL_gskip rfl rfl rfl rfl ?_
  refine TL_gskip rfl rfl rfl rfl ?_
  refine TL_y rfl rfl (Y_pick_t rfl rfl) ?_
  refine TL_nil ?_
  refine T_cond_true rfl ?_
  refine T_region ?_
  refine TL_y rfl rfl (Y_assign rfl) ?_
  refine TL_nil ?_
  refine T_ret ?_
  refine thenS_ret ?_
  exact RetG_1 (.inl rfl) rfl (ResV.tmp rfl) GivesTo.g (⟨rfl, rfl⟩)

theorem enough_spec {L : List HP} {b : Nat} {bs : List Bool} {n : Int} (hb : bs.length = 7) (hn : 1 ≤ n ∧ n ≤ 7) : Fn Try.prog 58 #[.pointer (some ⟨b, 0, none⟩)] (votes b bs n :: L) (fun v L' => v = .bool (decide (n / 2 + 1 ≤ ((allV bs n).length : Int))) ∧ L' = votes b bs n :: L) := by
  refine Fn_enter Try.func58 rfl rfl rfl rfl ?_
  refine T_region ?_
  refine TL_y rfl rfl (Y_assign rfl) ?_
  refine TL_nil ?_
  refine T_region_draw _ [0, 1, 3, 7, 15, 31, 63, 127, 255, 511, 1023, 2047, 1023, 5119, 13311, 29695, 65535, 131071, 262143, 524287] [] [(0, true), (1, true), (2, true), (3, true), (4, true), (5, true), (6, true), (7, true), (8, true), (9, true), (10, true), (12, true), (13, true), (14, true), (15, true), (11, false), (16, false), (17, true), (18, true), (19, true)] (by kernel_rfl) (by decide +kernel) (Gives.refl _) ?_
  refine TF_y rfl rfl (Y_move rfl) ?_
  refine TF_y rfl rfl (Y_unequal rfl rfl (EqIs.ptr_nil)) ?_
  refine TF_name 4 (v' := .bool true) rfl (congrArg Value.bool (by simp)) ?_
  refine TF_y rfl rfl (Y_move rfl) ?_
  refine TF_gy rfl rfl rfl rfl (Y_move rfl) ?_
  refine TF_gy rfl rfl rfl rfl (Y_nil_check rfl) ?_
  refine TF_gy rfl rfl rfl rfl (Y_field_addr rfl) ?_
  refine TF_gy rfl rfl rfl rfl (Y_load rfl (vc_nodes hb)) ?_
  refine TF_gy rfl rfl rfl rfl (Y_gt rfl rfl) ?_
  refine TF_name 10 (v' := .bool true) rfl (congrArg Value.bool (decide_eq_true (by omega))) ?_
  refine TF_y rfl rfl (Y_pick_t rfl rfl) ?_
  refine TF_y rfl rfl (Y_move rfl) ?_
  refine TF_gy rfl rfl rfl rfl (Y_move rfl) ?_
  refine TF_gy rfl rfl rfl rfl (Y_move rfl) ?_
  refine TF_gy rfl rfl rfl rfl (Y_nil_check rfl) ?_
  refine TF_gy rfl rfl rfl rfl (Y_field_addr rfl) ?_
  refine TF_gy rfl rfl rfl rfl (Y_load rfl (vc_nodes hb)) ?_
  refine TF_anchor rfl ?_
  refine TL_grun rfl rfl ?_
  refine TL_call rfl rfl (count_spec hb hn.2) ?_
  rintro _ _ ⟨rfl, rfl⟩
  refine TF_end GivesTo.g ?_
  refine TF_anchor rfl ?_
  refine TL_grun rfl rfl ?_
  refine TL_call rfl rfl (quorum_spec n (i64In_mk (by omega)) _) ?_
  rintro _ _ ⟨rfl, rfl⟩
  refine TL_name 19 (v' := .int .i64 (n / 2 + 1)) rfl (by rw [if_neg (by omega)]) ?_
  refine TF_end GivesTo.g ?_
  refine TF_gy rfl rfl rfl rfl (Y_ge rfl rfl) ?_
  refine TF_y rfl rfl (Y_pick_t rfl rfl) ?_
  refine TF_y rfl rfl (Y_assign rfl) ?_
  refine TF_nil ?_
  refine T_ret ?_
  exact RetG_1 (.inl rfl) rfl (ResV.tmp rfl) GivesTo.g (⟨rfl, rfl⟩)
theorem enough_nil_spec (L : List HP) : Fn Try.prog 58 #[.pointer none] L (fun v L' => v = .bool false ∧ L' = L) := by
  refine Fn_enter Try.func58 rfl rfl rfl rfl ?_
  refine T_region ?_
  refine TL_y rfl rfl (Y_assign rfl) ?_
  refine TL_nil ?_
  refine T_region_draw _ [0, 1, 3, 7, 15, 31, 63, 127, 255, 511, 1023, 2047, 1023, 5119, 13311, 29695, 65535, 131071, 262143, 524287] [] [(0, true), (1, true), (2, true), (3, true), (4, true), (5, true), (6, true), (7, true), (8, true), (9, true), (10, true), (12, true), (13, true), (14, true), (15, true), (11, false), (16, false), (17, true), (18, true), (19, true)] (by kernel_rfl) (by decide +kernel) (Gives.refl _) ?_
  refine TF_y rfl rfl (Y_move rfl) ?_
  refine TF_y rfl rfl (Y_unequal rfl rfl (EqIs.ptr_nil)) ?_
  refine TF_name 4 (v' := .bool false) rfl (congrArg Value.bool (by simp)) ?_
  refine TF_y rfl rfl (Y_move rfl) ?_
  refine TF_gskip rfl rfl rfl rfl rfl ?_
  refine TF_gskip rfl rfl rfl rfl rfl ?_
  refine TF_gskip rfl rfl rfl rfl rfl ?_
  refine TF_gskip rfl rfl rfl rfl rfl ?_
  refine TF_gskip rfl rfl rfl rfl rfl ?_
  refine TF_y rfl rfl (Y_pick_f rfl rfl) ?_
  refine TF_y rfl rfl (Y_move rfl) ?_
  refine TF_gskip rfl rfl rfl rfl rfl ?_
  refine TF_gskip rfl rfl rfl rfl rfl ?_
  refine TF_gskip rfl rfl rfl rfl rfl ?_
  refine TF_gskip rfl rfl rfl rfl rfl ?_
  refine TF_gskip rfl rfl rfl rfl rfl ?_
  refine TF_anchor rfl ?_
  refine TL_gskip rfl rfl rfl rfl ?_
  refine TF_end GivesTo.g ?_
  refine TF_anchor rfl ?_
  refine TL_gskip rfl rfl rfl rfl ?_
  refine TF_end GivesTo.g ?_
  refine TF_gskip rfl rfl rfl rfl rfl ?_
  refine TF_y rfl rfl (Y_pick_f rfl rfl) ?_
  refine TF_y rfl rfl (Y_assign rfl) ?_
  refine TF_nil ?_
  refine T_ret ?_
  exact RetG_1 (.inl rfl) rfl (ResV.tmp rfl) GivesTo.g (⟨rfl, rfl⟩)

theorem overN_all : ∀ {l vs : List Value}, l.length = vs.length → overN l vs = some vs
  | [], [], _ => rfl
  | _ :: l, v :: vs, h => by simp [overN, overN_all (l := l) (vs := vs) (by simpa using h)]
  | [], _ :: _, h => by simp at h
  | _ :: _, [], h => by simp at h
theorem oneN_ofB : ∀ {l : List Value}, (∀ v ∈ l, v.oneCell' = true) → oneN l = true
  | [], _ => rfl
  | x :: l, h => by simp [oneN, h x (by simp), oneN_ofB (l := l) (fun v hv => h v (by simp [hv]))]
theorem vc_one (bs : List Bool) (n : Int) : oneN (vc bs n) = true := oneN_ofB fun v hv => by
  rcases List.mem_append.1 hv with h | h
  · obtain ⟨b, _, rfl⟩ := List.mem_map.1 h; rfl
  · simp at h; subst h; rfl
theorem vc_all {bs : List Bool} {n : Int} (h : bs.length = 7) : cutN 0 8 (vc bs n) = some (vc bs n) := by
  have := takeN_app (vc bs n) []
  simpa [vc, h, cutN] using this
theorem fork_spec {L : List HP} {b : Nat} {bs : List Bool} {n : Int} (hb : bs.length = 7) : Fn Try.prog 89 #[.pointer (some ⟨b, 0, none⟩)] (votes b bs n :: L) (fun v L' => ∃ b2, v = .pointer (some ⟨b2, 0, none⟩) ∧ L' = votes b2 bs n :: votes b bs n :: L) := by
  refine Fn_enter Try.func89 rfl rfl rfl rfl ?_
  refine T_region ?_
  refine TL_y rfl rfl (Y_assign rfl) ?_
  refine TL_nil ?_
  refine T_seq ?_
  refine T_region ?_
  refine TL_y rfl rfl (Y_move rfl) ?_
  refine TL_y rfl rfl (Y_equal rfl rfl (EqIs.ptr_nil)) ?_
  refine TL_name 5 (v' := .bool false) rfl (congrArg Value.bool (by simp)) ?_
  refine TL_nil ?_
  refine T_cond_false rfl ?_
  refine T_skip ?_
  refine thenS_normal ?_
  refine T_region ?_
  refine TL_y rfl rfl (Y_move rfl) ?_
  refine TL_y rfl rfl (Y_nil_check rfl) ?_
  refine TL_y rfl rfl (Y_load_agg rfl (vc_all hb)) ?_
  refine TL_alloc rfl rfl ?_
  intro b3
  refine TL_store rfl rfl rfl (by simp [vc, hb]) (vc_one bs n) (show setN 0 _ (vc bs n) = some (vc bs n) from overN_all (by simp [vc, hb])) ?_
  refine TL_nil ?_
  refine T_region ?_
  refine TL_y rfl rfl (Y_assign rfl) ?_
  refine TL_nil ?_
  refine T_ret ?_
  exact RetG_1 (.inl rfl) rfl (ResV.tmp rfl) GivesTo.g (⟨b3, rfl, rfl⟩)
theorem fork_nil_spec (L : List HP) : Fn Try.prog 89 #[.pointer none] L (fun v L' => v = .pointer none ∧ L' = L) := by
  refine Fn_enter Try.func89 rfl rfl rfl rfl ?_
  refine T_region ?_
  refine TL_y rfl rfl (Y_assign rfl) ?_
  refine TL_nil ?_
  refine T_seq ?_
  refine T_region ?_
  refine TL_y rfl rfl (Y_move rfl) ?_
  refine TL_y rfl rfl (Y_equal rfl rfl (EqIs.ptr_nil)) ?_
  refine TL_name 5 (v' := .bool true) rfl (congrArg Value.bool (by simp)) ?_
  refine TL_nil ?_
  refine T_cond_true rfl ?_
  refine T_region ?_
  refine TL_y rfl rfl (Y_assign rfl) ?_
  refine TL_nil ?_
  refine T_ret ?_
  refine thenS_ret ?_
  exact RetG_1 (.inl rfl) rfl (ResV.tmp rfl) GivesTo.g (⟨rfl, rfl⟩)
end Go.SL
