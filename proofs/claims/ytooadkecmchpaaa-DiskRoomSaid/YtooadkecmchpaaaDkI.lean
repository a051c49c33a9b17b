/- Disk: Crash: the walk. -/
import Derived.Test.YtooadkecmchpaaaDkH
set_option linter.unusedVariables false
set_option linter.unusedSimpArgs false
namespace Go.SL
open Go Go.Proofs
theorem del_noneM {κ α : Type} [DecidableEq κ] {m : List (κ × α)} {k : κ} (h : getM m k = none) : delM m k = m := List.filter_eq_self.2 fun q hq => by simpa using getM_none.1 h q hq
theorem not_crash1 {s : DkS} {keep : List TornD} {i : Nat} {t : TornD} (ht : keep[i]? = some t) (h : (getM (keep.take i) t.1).isSome = true) : ¬ crashOk s keep := fun hc => by
  obtain ⟨n, hn⟩ := Option.isSome_iff_exists.1 h
  have hlt := (List.getElem?_eq_some_iff.1 ht).1
  have e : keep = keep.take i ++ t :: keep.drop (i + 1) := by
    have h2 := (List.getElem?_eq_some_iff.1 ht).2
    conv => lhs; rw [← List.take_append_drop i keep, List.drop_eq_getElem_cons hlt, h2]
  have h1 := hc.1
  rw [e] at h1
  exact (List.pairwise_append.1 h1).2.2 _ (getM_mem hn) t List.mem_cons_self rfl
theorem not_crash2 {s : DkS} {keep : List TornD} {i : Nat} {t : TornD} (ht : keep[i]? = some t) (h : ¬ okT s t) : ¬ crashOk s keep := fun hc => h (hc.2 t (List.mem_of_getElem? ht))
theorem crash_snoc {s : DkS} {m : List TornD} {t : TornD} (hc : crashOk s m) (hn : getM m t.1 = none) (ho : okT s t) : crashOk s (m ++ [t]) := by
  refine ⟨List.pairwise_append.2 ⟨hc.1, by simp, fun a ha b hb => ?_⟩, fun x hx => ?_⟩
  · simp at hb; subst hb; exact getM_none.1 hn a ha
  · rcases List.mem_append.1 hx with hx | hx
    · exact hc.2 x hx
    · simp at hx; subst hx; exact ho
theorem lD_nil (keep : List TornD) (l : List FileE) : lD keep l [] = l := by
  unfold lD
  conv => rhs; rw [← List.map_id l]
  exact List.map_congr_left fun e _ => by simp [dnm]
theorem lD_le (keep : List TornD) (l : List FileE) (done : List (ByteArray × Nat)) : totF (lD keep l done) ≤ totF l := tot_map _ fun e he => by
  split
  · show (e.bytes.take _).length ≤ _; rw [List.length_take]; omega
  · exact Nat.le_refl _
theorem cr_in {L : List HP} {s : DkS} {keep : List TornD} {done : List (ByteArray × Nat)} {e : FileE} {A : Option Addr} {c : Nat} (hi : IncF s.l) (he : e ∈ s.l) (hn : e.name ∉ dnm done) : Gives (cells e.blk [.slice A (e.bytes.take (e.synced + kpt keep e.name).toNat).length c, .int .i64 (e.synced + kpt keep e.name)] 126 :: osl (intR .u8) 5 A c (e.bytes.take (e.synced + kpt keep e.name).toNat) :: allH ((delF (lD keep s.l done) e.name).map fH) :: L) (allH ((lD keep s.l (done ++ [(e.name, e.blk)])).map fH) :: L) := by
  refine Gives.trans (exH_close (f := fun p : Option Addr × Nat => fcells (cutE keep e) p.1 p.2) (L := allH ((delF (lD keep s.l done) e.name).map fH) :: L) (A, c)) ?_
  exact allH_cons.trans (allH_perm ((lD_step hi he hn).map fH))
theorem diskCrash_spec {L : List HP} {b bt : Nat} {s : DkS} {A0 : Option Addr} {c0 : Nat} {keep : List TornD} (hk : SlN L tornR A0 c0 keep) : Fn Try.prog 44 #[.pointer (some ⟨b, 0, none⟩), .slice A0 keep.length c0] (dk b bt s :: L) (fun v L' => v = .int .i64 (if crashOk s keep then 0 else 1) ∧ L' = dk b bt (if crashOk s keep then crashK s keep else s) :: L) := by
  refine Fn_enter Try.func44 rfl rfl rfl rfl ?_
  refine T_region ?_
  refine TL_y rfl rfl (Y_assign rfl) ?_
  refine TL_nil ?_
  refine T_seq ?_
  refine T_region ?_
  refine TL_y rfl rfl (Y_move rfl) ?_
  refine TL_call rfl rfl (diskMade_spec) ?_
  rintro _ _ ⟨rfl, rfl⟩
  refine TL_name 14 (v' := .bool true) rfl (rfl) ?_
  refine TL_y rfl rfl (Y_not_t rfl) ?_
  refine TL_nil ?_
  refine T_cond_false rfl ?_
  refine T_skip ?_
  refine thenS_normal ?_
  refine SlN.lens hk.tail fun hkl => ?_
  simp only [maxEl] at hkl
  refine T_dk fun hi => ?_
  have htot := hi.tot
  have hsz := hi.size
  refine T_region ?_
  refine TL_makeMap strK (intR .i64) false rfl ?_
  intro bk
  refine TL_gives (show Gives _ (omap strK (intR .i64) false bk (keep.take 0) :: _) from Gives.refl _) ?_
  refine TL_y rfl rfl (Y_assign rfl) ?_
  refine TL_nil ?_
  refine T_seq ?_
  refine T_region ?_
  refine TL_y rfl rfl (Y_move rfl) ?_
  refine TL_y rfl rfl (Y_len rfl) ?_
  refine TL_y rfl rfl (Y_move rfl) ?_
  refine TL_nil ?_
  refine T_block ?_
  refine T_loopK (σ := Nat) [0, 5, 17, 18] (fun i => i ≤ keep.length ∧ crashOk s (keep.take i)) (fun i kv => (19, .int .i64 (i : Int)) :: kv) (fun i => omap strK (intR .i64) false bk (keep.take i) :: cells b [.map (some bt), .int .i64 (leftK s), .int .i64 s.calls] 120 :: omap strK fpR false bt (fmap s.l) :: allH (s.l.map fH) :: L) (fun i => keep.length - i) (0) rfl (⟨Nat.zero_le _, List.Pairwise.nil, by simp⟩) (GivesTo.g) (sub_cons rfl (sub_cons rfl (sub_cons rfl (sub_cons rfl (sub_cons rfl (sub_nil)))))) ?_
  rintro i ⟨hil, hco⟩
  refine T_region ?_
  refine TL_y rfl rfl (Y_lt rfl rfl) ?_
  refine TL_nil ?_
  refine T_seq ?_
  refine T_if rfl (fun h20 => ?_) (fun h20 => ?_)
  · refine T_skip ?_
    refine thenS_normal ?_
    refine T_seq ?_
    refine T_block ?_
    obtain ⟨t, ht⟩ : ∃ t, keep[i]? = some t := ⟨_, List.getElem?_eq_getElem (by omega)⟩
    have htk := takeAt ht
    have hkk : SlN (omap strK (intR .i64) false bk (keep.take i) :: cells b [.map (some bt), .int .i64 (leftK s), .int .i64 s.calls] 120 :: omap strK fpR false bt (fmap s.l) :: allH (s.l.map fH) :: L) tornR A0 c0 keep := hk.tail.tail.tail.tail
    refine T_elem_fact hkk ht (fun M l h => h.2) fun hto => ?_
    refine T_addr_n hkk ht fun bq oq eq => ?_
    subst eq
    refine T_region ?_
    refine TL_y rfl rfl (Y_index_n (R := tornR) (xs := keep) rfl rfl rfl ht) ?_
    refine TL_y rfl rfl (Y_load_naf (R := tornR) (c := c0) (xs := keep) (q := 0) (vs := tornC t) rfl hkk ht rfl) ?_
    refine TL_alloc rfl rfl ?_
    intro b7
    refine TL_store rfl rfl rfl rfl rfl rfl ?_
    refine TL_nil ?_
    refine T_region_draw _ [0, 1, 3, 7, 0, 16, 63, 127] [] [(0, true), (1, true), (2, true), (3, true), (4, true), (5, true), (6, true), (7, true)] (by kernel_rfl) (by decide +kernel) (Gives.refl _) ?_
    refine TF_y rfl rfl (Y_move rfl) ?_
    refine TF_y rfl rfl (Y_nil_check rfl) ?_
    refine TF_y rfl rfl (Y_field_addr rfl) ?_
    refine TF_y rfl rfl (Y_load rfl rfl) ?_
    refine TF_y rfl rfl (Y_field_addr rfl) ?_
    refine TF_y rfl rfl (Y_load rfl rfl) ?_
    refine TF_y rfl rfl (Y_lookup (k := t.1) rfl rfl hto.1) ?_
    refine TF_name 29 (v' := fptr s.l t.1) rfl (look_ptr s.l t.1) ?_
    refine TF_y rfl rfl (Y_assign rfl) ?_
    refine TF_nil ?_
    refine T_seq ?_
    refine T_region ?_
    refine TL_y rfl rfl (Y_move rfl) ?_
    refine TL_y rfl rfl (Y_field_addr rfl) ?_
    refine TL_y rfl rfl (Y_load rfl rfl) ?_
    refine TL_y rfl rfl (Y_lookup_ok (k := t.1) rfl rfl hto.1) ?_
    refine TL_y rfl rfl (Y_move rfl) ?_
    refine TL_y rfl rfl (Y_extract rfl rfl) ?_
    refine TL_y rfl rfl (Y_extract rfl rfl) ?_
    refine TL_y rfl rfl (Y_assign rfl) ?_
    refine TL_y rfl rfl (Y_assign rfl) ?_
    refine TL_nil ?_
    rcases crash_case s (keep.take i) t with hc1 | ⟨hc1, hc2⟩ | ⟨hc1, e, hc2, hc3⟩ | ⟨hc1, e, hc2, hc3⟩
    · refine T_region_draw _ [0, 1, 3, 7, 15, 31, 63, 127, 255, 511, 1023, 2047, 4095, 2047, 10239, 26623, 59391, 124927, 2047, 264191, 788479, 1837055, 4188159, 8388607, 16777215] [] [(0, true), (1, true), (2, true), (3, true), (4, true), (5, true), (6, true), (7, true), (8, true), (9, true), (10, true), (11, true), (12, true), (13, true), (14, true), (15, true), (16, true), (17, true), (18, true), (19, true), (20, true), (21, true), (22, true), (23, true), (24, true)] (by kernel_rfl) (by decide +kernel) (Gives.refl _) ?_
      refine TF_y rfl rfl (Y_move rfl) ?_
      refine TF_name 37 (v' := .bool true) rfl (congrArg Value.bool hc1) ?_
      refine TF_y rfl rfl (Y_move rfl) ?_
      refine TF_gskip rfl rfl rfl rfl rfl ?_
      refine TF_gskip rfl rfl rfl rfl rfl ?_
      refine TF_y rfl rfl (Y_pick_t rfl rfl) ?_
      refine TF_y rfl rfl (Y_move rfl) ?_
      refine TF_gskip rfl rfl rfl rfl rfl ?_
      refine TF_gskip rfl rfl rfl rfl rfl ?_
      refine TF_gskip rfl rfl rfl rfl rfl ?_
      refine TF_y rfl rfl (Y_pick_t rfl rfl) ?_
      refine TF_y rfl rfl (Y_move rfl) ?_
      refine TF_gskip rfl rfl rfl rfl rfl ?_
      refine TF_gskip rfl rfl rfl rfl rfl ?_
      refine TF_gskip rfl rfl rfl rfl rfl ?_
      refine TF_gskip rfl rfl rfl rfl rfl ?_
      refine TF_gskip rfl rfl rfl rfl rfl ?_
      refine TF_gskip rfl rfl rfl rfl rfl ?_
      refine TF_gskip rfl rfl rfl rfl rfl ?_
      refine TF_gskip rfl rfl rfl rfl rfl ?_
      refine TF_gskip rfl rfl rfl rfl rfl ?_
      refine TF_gskip rfl rfl rfl rfl rfl ?_
      refine TF_gskip rfl rfl rfl rfl rfl ?_
      refine TF_gskip rfl rfl rfl rfl rfl ?_
      refine TF_gskip rfl rfl rfl rfl rfl ?_
      refine TF_y rfl rfl (Y_pick_t rfl rfl) ?_
      refine TF_nil ?_
      refine T_cond_true rfl ?_
      refine T_region ?_
      refine TL_y rfl rfl (Y_assign rfl) ?_
      refine TL_nil ?_
      refine T_ret ?_
      refine thenS_ret ?_
      refine inB_ret ?_
      refine thenS_ret ?_
      refine thenS_ret ?_
      refine inB_ret ?_
      refine thenS_ret ?_
      rw [if_neg (not_crash1 ht hc1), if_neg (not_crash1 ht hc1)]
      refine RetQ.gives (dk_close b bt s hi) ?_
      exact RetG_1 (.inl rfl) rfl (ResV.tmp rfl) GivesTo.g (⟨rfl, rfl⟩)
    · rw [show fptr s.l t.1 = .pointer none by unfold fptr; rw [hc2]; rfl]
      refine T_region_draw _ [0, 1, 3, 7, 15, 31, 63, 127, 255, 511, 1023, 2047, 4095, 2047, 10239, 26623, 59391, 124927, 2047, 264191, 788479, 1837055, 4188159, 8388607, 16777215] [] [(0, true), (1, true), (2, true), (3, true), (4, true), (5, true), (6, true), (7, true), (8, true), (9, true), (10, true), (11, true), (12, true), (13, true), (14, true), (15, true), (16, true), (17, true), (18, true), (19, true), (20, true), (21, true), (22, true), (23, true), (24, true)] (by kernel_rfl) (by decide +kernel) (Gives.refl _) ?_
      refine TF_y rfl rfl (Y_move rfl) ?_
      refine TF_name 37 (v' := .bool false) rfl (congrArg Value.bool (by rw [hc1]; rfl)) ?_
      refine TF_y rfl rfl (Y_move rfl) ?_
      refine TF_gy rfl rfl rfl rfl (Y_move rfl) ?_
      refine TF_gy rfl rfl rfl rfl (Y_equal rfl rfl (EqIs.ptr_nil)) ?_
      refine TF_name 40 (v' := .bool true) rfl (by simp) ?_
      refine TF_y rfl rfl (Y_pick_f rfl rfl) ?_
      refine TF_y rfl rfl (Y_move rfl) ?_
      refine TF_gskip rfl rfl rfl rfl rfl ?_
      refine TF_gskip rfl rfl rfl rfl rfl ?_
      refine TF_gskip rfl rfl rfl rfl rfl ?_
      refine TF_y rfl rfl (Y_pick_t rfl rfl) ?_
      refine TF_y rfl rfl (Y_move rfl) ?_
      refine TF_gskip rfl rfl rfl rfl rfl ?_
      refine TF_gskip rfl rfl rfl rfl rfl ?_
      refine TF_gskip rfl rfl rfl rfl rfl ?_
      refine TF_gskip rfl rfl rfl rfl rfl ?_
      refine TF_gskip rfl rfl rfl rfl rfl ?_
      refine TF_gskip rfl rfl rfl rfl rfl ?_
      refine TF_gskip rfl rfl rfl rfl rfl ?_
      refine TF_gskip rfl rfl rfl rfl rfl ?_
      refine TF_gskip rfl rfl rfl rfl rfl ?_
      refine TF_gskip rfl rfl rfl rfl rfl ?_
      refine TF_gskip rfl rfl rfl rfl rfl ?_
      refine TF_gskip rfl rfl rfl rfl rfl ?_
      refine TF_gskip rfl rfl rfl rfl rfl ?_
      refine TF_y rfl rfl (Y_pick_t rfl rfl) ?_
      refine TF_nil ?_
      refine T_cond_true rfl ?_
      refine T_region ?_
      refine TL_y rfl rfl (Y_assign rfl) ?_
      refine TL_nil ?_
      refine T_ret ?_
      refine thenS_ret ?_
      refine inB_ret ?_
      refine thenS_ret ?_
      refine thenS_ret ?_
      refine inB_ret ?_
      refine thenS_ret ?_
      have hnc := not_crash2 (s := s) ht (by rintro ⟨e, h1, _⟩; rw [hc2] at h1; cases h1)
      rw [if_neg hnc, if_neg hnc]
      refine RetQ.gives (dk_close b bt s hi) ?_
      exact RetG_1 (.inl rfl) rfl (ResV.tmp rfl) GivesTo.g (⟨rfl, rfl⟩)
    · obtain ⟨he, hen⟩ := findF_mem hc2
      have hoe := hi.ok e he
      have hte := tot_mem he
      rw [show fptr s.l t.1 = .pointer (some ⟨e.blk, 0, none⟩) by unfold fptr; rw [hc2]; rfl]
      refine T_fout hi.inc he fun A9 c9 => ?_
      refine T_region_draw _ [0, 1, 3, 7, 15, 31, 63, 127, 255, 511, 1023, 2047, 4095, 2047, 10239, 26623, 59391, 124927, 2047, 264191, 788479, 1837055, 4188159, 8388607, 16777215] [] [(0, true), (1, true), (2, true), (3, true), (4, true), (5, true), (6, true), (7, true), (8, true), (9, true), (10, true), (11, true), (12, true), (13, true), (14, true), (15, true), (16, true), (17, true), (18, true), (19, true), (20, true), (21, true), (22, true), (23, true), (24, true)] (by kernel_rfl) (by decide +kernel) (Gives.refl _) ?_
      refine TF_y rfl rfl (Y_move rfl) ?_
      refine TF_name 37 (v' := .bool false) rfl (congrArg Value.bool (by rw [hc1]; rfl)) ?_
      refine TF_y rfl rfl (Y_move rfl) ?_
      refine TF_gy rfl rfl rfl rfl (Y_move rfl) ?_
      refine TF_gy rfl rfl rfl rfl (Y_equal rfl rfl (EqIs.ptr_nil)) ?_
      refine TF_name 40 (v' := .bool false) rfl (by simp) ?_
      refine TF_y rfl rfl (Y_pick_f rfl rfl) ?_
      refine TF_y rfl rfl (Y_move rfl) ?_
      refine TF_gy rfl rfl rfl rfl (Y_field_addr rfl) ?_
      refine TF_gy rfl rfl rfl rfl (Y_load rfl rfl) ?_
      refine TF_gy rfl rfl rfl rfl (Y_lt rfl rfl) ?_
      refine TF_y rfl rfl (Y_pick_f rfl rfl) ?_
      refine TF_y rfl rfl (Y_move rfl) ?_
      refine TF_splitd 47 rfl (fun h47 => ?_) (fun h47 => ?_)
      · refine TF_gskip rfl rfl rfl rfl rfl ?_
        refine TF_gskip rfl rfl rfl rfl rfl ?_
        refine TF_gskip rfl rfl rfl rfl rfl ?_
        refine TF_gskip rfl rfl rfl rfl rfl ?_
        refine TF_gskip rfl rfl rfl rfl rfl ?_
        refine TF_gskip rfl rfl rfl rfl rfl ?_
        refine TF_gskip rfl rfl rfl rfl rfl ?_
        refine TF_gskip rfl rfl rfl rfl rfl ?_
        refine TF_gskip rfl rfl rfl rfl rfl ?_
        refine TF_gskip rfl rfl rfl rfl rfl ?_
        refine TF_gskip rfl rfl rfl rfl rfl ?_
        refine TF_gskip rfl rfl rfl rfl rfl ?_
        refine TF_gskip rfl rfl rfl rfl rfl ?_
        refine TF_y rfl rfl (Y_pick_t rfl rfl) ?_
        refine TF_nil ?_
        refine T_cond_true rfl ?_
        refine T_region ?_
        refine TL_y rfl rfl (Y_assign rfl) ?_
        refine TL_nil ?_
        refine T_ret ?_
        refine thenS_ret ?_
        refine inB_ret ?_
        refine thenS_ret ?_
        refine thenS_ret ?_
        refine inB_ret ?_
        refine thenS_ret ?_
        have hnc := not_crash2 (s := s) ht (by rintro ⟨e2, h1, h2⟩; rw [hc2] at h1; cases h1; exact hc3 h2)
        rw [if_neg hnc, if_neg hnc]
        refine RetQ.gives (f_back (A := A9) (c := c9) hi.inc he) ?_
        refine RetQ.gives (dk_close b bt s hi) ?_
        exact RetG_1 (.inl rfl) rfl (ResV.tmp rfl) GivesTo.g (⟨rfl, rfl⟩)
      · refine TF_gy rfl rfl rfl rfl (Y_field_addr rfl) ?_
        refine TF_gy rfl rfl rfl rfl (Y_load rfl rfl) ?_
        refine TF_gy rfl rfl rfl rfl (Y_move rfl) ?_
        refine TF_gy rfl rfl rfl rfl (Y_nil_check rfl) ?_
        refine TF_gy rfl rfl rfl rfl (Y_field_addr rfl) ?_
        refine TF_gy rfl rfl rfl rfl (Y_load rfl rfl) ?_
        refine TF_gy rfl rfl rfl rfl (Y_len rfl) ?_
        refine TF_gy rfl rfl rfl rfl (Y_move rfl) ?_
        refine TF_gy rfl rfl rfl rfl (Y_nil_check rfl) ?_
        refine TF_gy rfl rfl rfl rfl (Y_field_addr rfl) ?_
        refine TF_gy rfl rfl rfl rfl (Y_load rfl rfl) ?_
        refine TF_gy rfl rfl rfl rfl (Y_sub rfl rfl (by omega)) ?_
        refine TF_gy rfl rfl rfl rfl (Y_gt rfl rfl) ?_
        refine TF_name 60 (v' := .bool true) rfl (congrArg Value.bool (decide_eq_true (by omega))) ?_
        refine TF_y rfl rfl (Y_pick_f rfl rfl) ?_
        refine TF_nil ?_
        refine T_cond_true rfl ?_
        refine T_region ?_
        refine TL_y rfl rfl (Y_assign rfl) ?_
        refine TL_nil ?_
        refine T_ret ?_
        refine thenS_ret ?_
        refine inB_ret ?_
        refine thenS_ret ?_
        refine thenS_ret ?_
        refine inB_ret ?_
        refine thenS_ret ?_
        have hnc := not_crash2 (s := s) ht (by rintro ⟨e2, h1, h2⟩; rw [hc2] at h1; cases h1; exact hc3 h2)
        rw [if_neg hnc, if_neg hnc]
        refine RetQ.gives (f_back (A := A9) (c := c9) hi.inc he) ?_
        refine RetQ.gives (dk_close b bt s hi) ?_
        exact RetG_1 (.inl rfl) rfl (ResV.tmp rfl) GivesTo.g (⟨rfl, rfl⟩)
    · obtain ⟨he, hen⟩ := findF_mem hc2
      have hoe := hi.ok e he
      have hte := tot_mem he
      rw [show fptr s.l t.1 = .pointer (some ⟨e.blk, 0, none⟩) by unfold fptr; rw [hc2]; rfl]
      refine T_fout hi.inc he fun A9 c9 => ?_
      refine T_region_draw _ [0, 1, 3, 7, 15, 31, 63, 127, 255, 511, 1023, 2047, 4095, 2047, 10239, 26623, 59391, 124927, 2047, 264191, 788479, 1837055, 4188159, 8388607, 16777215] [] [(0, true), (1, true), (2, true), (3, true), (4, true), (5, true), (6, true), (7, true), (8, true), (9, true), (10, true), (11, true), (12, true), (13, true), (14, true), (15, true), (16, true), (17, true), (18, true), (19, true), (20, true), (21, true), (22, true), (23, true), (24, true)] (by kernel_rfl) (by decide +kernel) (Gives.refl _) ?_
      refine TF_y rfl rfl (Y_move rfl) ?_
      refine TF_name 37 (v' := .bool false) rfl (congrArg Value.bool (by rw [hc1]; rfl)) ?_
      refine TF_y rfl rfl (Y_move rfl) ?_
      refine TF_gy rfl rfl rfl rfl (Y_move rfl) ?_
      refine TF_gy rfl rfl rfl rfl (Y_equal rfl rfl (EqIs.ptr_nil)) ?_
      refine TF_name 40 (v' := .bool false) rfl (by simp) ?_
      refine TF_y rfl rfl (Y_pick_f rfl rfl) ?_
      refine TF_y rfl rfl (Y_move rfl) ?_
      refine TF_gy rfl rfl rfl rfl (Y_field_addr rfl) ?_
      refine TF_gy rfl rfl rfl rfl (Y_load rfl rfl) ?_
      refine TF_gy rfl rfl rfl rfl (Y_lt rfl rfl) ?_
      refine TF_name 45 (v' := .bool false) rfl (congrArg Value.bool (decide_eq_false (by omega))) ?_
      refine TF_y rfl rfl (Y_pick_f rfl rfl) ?_
      refine TF_y rfl rfl (Y_move rfl) ?_
      refine TF_gy rfl rfl rfl rfl (Y_field_addr rfl) ?_
      refine TF_gy rfl rfl rfl rfl (Y_load rfl rfl) ?_
      refine TF_gy rfl rfl rfl rfl (Y_move rfl) ?_
      refine TF_gy rfl rfl rfl rfl (Y_nil_check rfl) ?_
      refine TF_gy rfl rfl rfl rfl (Y_field_addr rfl) ?_
      refine TF_gy rfl rfl rfl rfl (Y_load rfl rfl) ?_
      refine TF_gy rfl rfl rfl rfl (Y_len rfl) ?_
      refine TF_gy rfl rfl rfl rfl (Y_move rfl) ?_
      refine TF_gy rfl rfl rfl rfl (Y_nil_check rfl) ?_
      refine TF_gy rfl rfl rfl rfl (Y_field_addr rfl) ?_
      refine TF_gy rfl rfl rfl rfl (Y_load rfl rfl) ?_
      refine TF_gy rfl rfl rfl rfl (Y_sub rfl rfl (by omega)) ?_
      refine TF_gy rfl rfl rfl rfl (Y_gt rfl rfl) ?_
      refine TF_name 60 (v' := .bool false) rfl (congrArg Value.bool (decide_eq_false (by omega))) ?_
      refine TF_y rfl rfl (Y_pick_f rfl rfl) ?_
      refine TF_nil ?_
      refine T_cond_false rfl ?_
      refine T_skip ?_
      refine thenS_normal ?_
      refine T_gives (f_back (A := A9) (c := c9) hi.inc he) ?_
      refine T_region_last ?_
      refine TL_y rfl rfl (Y_move rfl) ?_
      refine TL_y rfl rfl (Y_field_addr rfl) ?_
      refine TL_y rfl rfl (Y_load rfl rfl) ?_
      refine TL_y rfl rfl (Y_field_addr rfl) ?_
      refine TL_y rfl rfl (Y_load rfl rfl) ?_
      refine TL_update (R := intR .i64) (k := t.1) (u := t.2) (cs := [.int .i64 t.2]) (keep.take (i + 1)) rfl rfl rfl hto.1 (Knows.const fun _ => ⟨rfl, hto.2⟩) (by rw [htk, del_noneM hc1]; exact (List.perm_append_singleton t _).symm) ?_
      refine TL_nil ?_
      refine inB_normal ?_
      refine thenS_normal ?_
      refine T_region_last ?_
      refine TL_y rfl rfl (Y_add rfl rfl (by omega)) ?_
      refine TL_name 67 (v' := .int .i64 ((i + 1 : Nat) : Int)) rfl (rfl) ?_
      refine TL_y rfl rfl (Y_move rfl) ?_
      refine TL_nil ?_
      refine thenS_normal ?_
      exact ⟨i + 1, ⟨by omega, by rw [htk]; exact crash_snoc hco hc1 ⟨e, hc2, hc3⟩⟩, by omega, holds_to (sub_cons rfl (sub_cons rfl (sub_cons rfl (sub_cons rfl (sub_cons rfl (sub_nil)))))) GivesTo.g⟩
  · refine T_exit ?_
    refine thenS_exit ?_
    refine thenS_exit ?_
    refine inB_hit ?_
    refine thenS_normal ?_
    refine T_seq ?_
    have hck : crashOk s keep := by have := hco; rwa [List.take_of_length_le (by omega)] at this
    rw [List.take_of_length_le (show keep.length ≤ i by omega)]
    refine T_region ?_
    refine TL_y rfl rfl (Y_move rfl) ?_
    refine TL_y rfl rfl (Y_nil_check rfl) ?_
    refine TL_y rfl rfl (Y_field_addr rfl) ?_
    refine TL_y rfl rfl (Y_load rfl rfl) ?_
    refine TL_range rfl rfl ?_
    intro it
    refine TL_nil ?_
    refine T_block ?_
    refine T_loopK (σ := List (ByteArray × Nat)) [0, 5, 72] (fun done => True) (fun done kv => kv) (fun done => mrange strK fpR false bt it (fmap s.l) done :: cells b [.map (some bt), .int .i64 (s.size - (totF (lD keep s.l done) : Int)), .int .i64 s.calls] 120 :: allH ((lD keep s.l done).map fH) :: omap strK (intR .i64) false bk keep :: L) (fun done => (fmap s.l).length - done.length) ([]) rfl (trivial) ((by rw [lD_nil, show s.size - (totF s.l : Int) = leftK s from rfl]; exact GivesTo.g)) (sub_cons rfl (sub_cons rfl (sub_cons rfl (sub_nil)))) ?_
    rintro done -
    refine T_region ?_
    refine TL_next rfl rfl (fun hp => ?_) (fun q1 cs1 hq hd1 hlt => ?_)
    · refine TL_y rfl rfl (Y_extract rfl rfl) ?_
      refine TL_name 74 (v' := .bool false) rfl (rfl) ?_
      refine TL_nil ?_
      refine T_seq ?_
      refine T_cond_false rfl ?_
      refine T_exit ?_
      refine thenS_exit ?_
      refine thenS_exit ?_
      refine inB_hit ?_
      refine thenS_normal ?_
      have hall : ∀ e ∈ s.l, e.name ∈ dnm done := fun e he => by have := (hp.map (fun q : ByteArray × Nat => q.1)).mem_iff.2 (List.mem_map.2 ⟨(e.name, e.blk), List.mem_map.2 ⟨e, he, rfl⟩, rfl⟩); exact this
      rw [lD_all hall]
      refine T_gives (endr it) ?_
      refine T_region ?_
      refine TL_y rfl rfl (Y_move rfl) ?_
      refine TL_y rfl rfl (Y_nil_check rfl) ?_
      refine TL_y rfl rfl (Y_field_addr rfl) ?_
      refine TL_store rfl rfl rfl rfl rfl rfl ?_
      refine TL_nil ?_
      refine T_region ?_
      refine TL_y rfl rfl (Y_assign rfl) ?_
      refine TL_nil ?_
      refine T_ret ?_
      rw [if_pos hck, if_pos hck, show crashK s keep = ⟨s.size, -1, s.l.map (cutE keep)⟩ from rfl]
      refine RetQ.gives (dk_close2 b bt ⟨s.size, -1, s.l.map (cutE keep)⟩ (n := s.size - (totF (s.l.map (cutE keep)) : Int)) (m := fmap s.l) rfl (fmap_map _ (fun _ => rfl) (fun _ => rfl)) (show KI ⟨s.size, -1, s.l.map (cutE keep)⟩ from hi.crash hck)) ?_
      exact RetG_1 (.inl rfl) rfl (ResV.tmp rfl) GivesTo.g (⟨rfl, rfl⟩)
    · refine TL_y rfl rfl (Y_extract rfl rfl) ?_
      refine TL_name 74 (v' := .bool true) rfl (rfl) ?_
      refine TL_nil ?_
      refine T_seq ?_
      refine T_cond_true rfl ?_
      refine T_skip ?_
      refine thenS_normal ?_
      refine T_block ?_
      refine T_region ?_
      refine TL_entry_v rfl rfl ?_
      intro ok75 _
      refine TL_y rfl rfl (Y_extract rfl rfl) ?_
      refine TL_y rfl rfl (Y_extract rfl rfl) ?_
      refine TL_y rfl rfl (Y_assign rfl) ?_
      refine TL_y rfl rfl (Y_assign rfl) ?_
      refine TL_nil ?_
      obtain ⟨e, he, heq⟩ := List.mem_map.1 hq
      subst heq
      dsimp only at hd1 ok75 ⊢
      have hnd : e.name ∉ dnm done := fun hm => by obtain ⟨q, hq1, hq2⟩ := List.mem_map.1 hm; exact hd1 q hq1 hq2
      have hke := kpt_ok hi hck he
      have hoe := hi.ok e he
      have hte := tot_mem he
      have hle := lD_le keep s.l done
      have hlt2 := lD_tot hi hck he hnd
      refine T_fout (lD_inc (keep := keep) hi.inc done) (lD_mem (keep := keep) he hnd) fun A16 c16 => ?_
      refine T_region_draw_last (cells e.blk [.slice A16 e.bytes.length c16, .int .i64 e.synced] 126 :: omap strK (intR .i64) false bk keep :: []) [0, 0, 0, 4, 12, 28, 0, 0, 192, 508, 1023] [10] [(0, true), (1, true), (2, true), (3, true), (4, true), (5, true), (6, true), (7, true), (8, true), (9, true), (10, false)] (by kernel_rfl) (by decide +kernel) GivesTo.g ?_
      refine TF_y rfl rfl (Y_move rfl) ?_
      refine TF_y rfl rfl (Y_move rfl) ?_
      refine TF_y rfl rfl (Y_move rfl) ?_
      refine TF_y rfl rfl (Y_nil_check rfl) ?_
      refine TF_y rfl rfl (Y_field_addr rfl) ?_
      refine TF_y rfl rfl (Y_load rfl rfl) ?_
      refine TF_y rfl rfl (Y_move rfl) ?_
      refine TF_y rfl rfl (Y_move rfl) ?_
      refine TF_y rfl rfl (Y_lookup (k := e.name) rfl rfl ok75) ?_
      refine TF_name 86 (v' := .int .i64 (kpt keep e.name)) rfl (by unfold kpt; cases getM keep e.name <;> rfl) ?_
      refine TF_y rfl rfl (Y_add rfl rfl (by omega)) ?_
      refine TF_anchor rfl ?_
      refine TL_gives (show Gives _ (cells b [.map (some bt), .int .i64 (s.size - (totF (lD keep s.l done) : Int)), .int .i64 s.calls] 120 :: cells e.blk [.slice A16 e.bytes.length c16, .int .i64 e.synced] 126 :: osl (intR .u8) 5 A16 c16 e.bytes :: allH ((delF (lD keep s.l done) e.name).map fH) :: mrange strK fpR false bt it (fmap s.l) (done ++ [(e.name, e.blk)]) :: omap strK (intR .i64) false bk keep :: L) from GivesTo.g) ?_
      refine TL_call rfl rfl (cutRaw_spec (e := e) (n := e.synced + kpt keep e.name) (by omega) (by omega) (by omega)) ?_
      rintro _ _ ⟨rfl, A88, c88, rfl⟩
      rw [show s.size - (totF (lD keep s.l done) : Int) + ((e.bytes.length : Int) - (e.synced + kpt keep e.name)) = s.size - (totF (lD keep s.l (done ++ [(e.name, e.blk)])) : Int) by omega]
      refine TL_gives (show Gives _ (cells e.blk [.slice A88 (e.bytes.take (e.synced + kpt keep e.name).toNat).length c88, .int .i64 (e.synced + kpt keep e.name)] 126 :: osl (intR .u8) 5 A88 c88 (e.bytes.take (e.synced + kpt keep e.name).toNat) :: allH ((delF (lD keep s.l done) e.name).map fH) :: cells b [.map (some bt), .int .i64 (s.size - (totF (lD keep s.l (done ++ [(e.name, e.blk)])) : Int)), .int .i64 s.calls] 120 :: mrange strK fpR false bt it (fmap s.l) (done ++ [(e.name, e.blk)]) :: omap strK (intR .i64) false bk keep :: L) from GivesTo.g) ?_
      refine TL_gives (cr_in hi.inc he hnd) ?_
      refine TF_end_tail rfl ?_
      refine TF_nil ?_
      refine inB_normal ?_
      refine thenS_normal ?_
      exact ⟨done ++ [(e.name, e.blk)], trivial, by rw [List.length_append]; simp only [List.length_cons, List.length_nil]; omega, holds_to (sub_cons rfl (sub_cons rfl (sub_cons rfl (sub_nil)))) GivesTo.g⟩
end Go.SL
