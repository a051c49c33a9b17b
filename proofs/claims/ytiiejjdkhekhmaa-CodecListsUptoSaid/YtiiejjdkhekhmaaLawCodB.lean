/- The walks of the laws on readings and on texts. -/
import Derived.Test.YtiiejjdkhekhmaaCodG
set_option linter.unusedVariables false
set_option linter.unusedSimpArgs false
namespace Go.SL
open Go Go.Proofs

theorem rdU_take {bs : List Int} {x n : Nat} (h : RdU bs x n 0) : bs.take n = grp x ∧ n ≤ bs.length ∧ x < 18446744073709551616 := by
  rcases h with ⟨_, h2, h3, h4, h5⟩ | ⟨h, _⟩
  · exact ⟨h3, h5, h2⟩
  · cases h
theorem rdT_take {bs : List Int} {most : Int} {s : ByteArray} {n : Nat} (h : RdT bs most s n 0) : bs.take n = txt s ∧ n ≤ bs.length ∧ n = (txt s).length := by
  rcases h with ⟨_, h2, h3, h4, h5⟩ | ⟨h, _⟩
  · exact ⟨h3, h5, h4⟩
  · cases h
theorem rdT_len {bs : List Int} {most : Int} {s : ByteArray} {n e : Nat} (h : RdT bs most s n e) : n ≤ bs.length := by
  rcases h with ⟨_, _, _, _, h⟩ | ⟨_, _, h, _⟩
  · exact h
  · omega
theorem grp_pre {y x : Nat} {r : List Int} (h : grp y <+: grp x ++ r) : y = x := by
  obtain ⟨ds, c, a1, a2, a3, a4, a5, a6⟩ := grp_form x x (Nat.le_refl _)
  have hH : High ((grp x ++ r).take ds.length) := by rw [a1]; simp [a2]
  have hc : (grp x ++ r)[ds.length]? = some c := by rw [a1]; simp
  obtain ⟨ds', b1, b2, b3, b4, b5⟩ := grp_at h hH hc a4
  apply grp_inj
  obtain ⟨t, ht⟩ := h
  have := congrArg (List.take (ds.length + 1)) ht
  rw [List.take_append_of_le_length (by rw [b1]; simp; omega), List.take_append_of_le_length (by rw [a1]; simp), List.take_of_length_le (by rw [b1]; simp; omega), List.take_of_length_le (by rw [a1]; simp)] at this
  exact this
theorem rdT_short {s : ByteArray} {bs : List Int} {most : Int} (hm : most ≤ 9223372036854775807) (h : most < (s.size : Int)) : RdT (txt s ++ bs) most ⟨#[]⟩ 0 10 :=
  .inr ⟨rfl, rfl, rfl, fun s' hs hp => by
    by_cases hb : s.size < 18446744073709551616
    · have h1 : RdU (txt s ++ bs) s.size (grp s.size).length 0 := by
        have := rdU_of_grp hb (strBytes s ++ bs)
        rwa [← List.append_assoc] at this
      have := (rdT_size h1 (by omega) hp).1
      omega
    · have h2 := grp_pre (y := s'.size) (x := s.size) (r := strBytes s ++ bs) (by rw [← List.append_assoc]; exact pre_grp hp)
      omega⟩
theorem codecReads_walk {L : List HP} {A : Option Addr} {c : Nat} {bs : List Int} (hk : SlK L (intR .u8) A c bs) (most : Int) (hm : intIn .i64 most) (h1 : bs.length ≤ 140737488351232) :
    Fn Try.prog 4 #[.slice A bs.length c, .int .i64 most] L (fun v L' => v = .bool true ∧ L' = L) := by
  refine Fn_enter Try.func4 rfl rfl rfl rfl ?_
  refine T_fact hk.all_int (fun _ h => h) fun ha => ?_
  refine hk.lens fun hl => ?_
  refine T_gives hk.lay ?_
  refine T_region ?_
  refine TL_y rfl rfl (Y_assign rfl) ?_
  refine TL_nil ?_
  refine T_region ?_
  refine TL_build_slice rfl rfl rfl rfl rfl rfl ?_
  intro b18
  refine TL_osl (k := 0) (intR .u8) [] (Knows.const fun M => rfl) rfl (by decide) ?_
  refine TL_name 18 (v' := .slice (some ⟨b18, 0, none⟩) ([] : List Int).length 0) rfl rfl ?_
  refine TL_y rfl rfl (Y_move rfl) ?_
  refine TL_append rfl rfl rfl rfl rfl slk (by (try simp only [List.length_append, List.length_cons, List.length_nil]); omega) ?_
  intro A20 c20
  simp only [List.nil_append]
  refine TL_freeze_osl ?_
  refine TL_y rfl rfl (Y_assign rfl) ?_
  refine TL_nil ?_
  refine T_region ?_
  refine TL_y rfl rfl (Y_move rfl) ?_
  refine TL_call rfl rfl (readUint_spec slk) ?_
  rintro _ _ ⟨⟨x, n, e, rfl, hr⟩, rfl⟩
  refine TL_y rfl rfl (Y_move rfl) ?_
  refine TL_y rfl rfl (Y_extract rfl rfl) ?_
  refine TL_y rfl rfl (Y_extract rfl rfl) ?_
  refine TL_y rfl rfl (Y_extract rfl rfl) ?_
  refine TL_y rfl rfl (Y_assign rfl) ?_
  refine TL_y rfl rfl (Y_assign rfl) ?_
  refine TL_y rfl rfl (Y_assign rfl) ?_
  refine TL_nil ?_
  refine T_region ?_
  refine TL_y rfl rfl (Y_move rfl) ?_
  refine TL_call rfl rfl (refReadUint_spec slk) ?_
  rintro _ _ ⟨⟨y, m, f, rfl, hr2⟩, rfl⟩
  obtain ⟨rfl, rfl, rfl⟩ := rdU_unique hr hr2
  refine TL_y rfl rfl (Y_move rfl) ?_
  refine TL_y rfl rfl (Y_extract rfl rfl) ?_
  refine TL_y rfl rfl (Y_extract rfl rfl) ?_
  refine TL_y rfl rfl (Y_extract rfl rfl) ?_
  refine TL_y rfl rfl (Y_assign rfl) ?_
  refine TL_y rfl rfl (Y_assign rfl) ?_
  refine TL_y rfl rfl (Y_assign rfl) ?_
  refine TL_nil ?_
  refine T_region ?_
  refine TL_y rfl rfl (Y_move rfl) ?_
  refine TL_y rfl rfl (Y_move rfl) ?_
  refine TL_call rfl rfl (readText_spec slk most hm) ?_
  rintro _ _ ⟨⟨s, k, g, rfl, ht⟩, rfl⟩
  refine TL_y rfl rfl (Y_move rfl) ?_
  refine TL_y rfl rfl (Y_extract rfl rfl) ?_
  refine TL_y rfl rfl (Y_extract rfl rfl) ?_
  refine TL_y rfl rfl (Y_extract rfl rfl) ?_
  refine TL_y rfl rfl (Y_assign rfl) ?_
  refine TL_y rfl rfl (Y_assign rfl) ?_
  refine TL_y rfl rfl (Y_assign rfl) ?_
  refine TL_nil ?_
  refine T_region ?_
  refine TL_y rfl rfl (Y_move rfl) ?_
  refine TL_y rfl rfl (Y_move rfl) ?_
  refine TL_call rfl rfl (refReadText_spec slk most hm) ?_
  rintro _ _ ⟨⟨t, l, h, rfl, ht2⟩, rfl⟩
  obtain ⟨rfl, rfl, rfl⟩ := rdT_unique (i64In hm).2 ht ht2
  refine TL_y rfl rfl (Y_move rfl) ?_
  refine TL_y rfl rfl (Y_extract rfl rfl) ?_
  refine TL_y rfl rfl (Y_extract rfl rfl) ?_
  refine TL_y rfl rfl (Y_extract rfl rfl) ?_
  refine TL_y rfl rfl (Y_assign rfl) ?_
  refine TL_y rfl rfl (Y_assign rfl) ?_
  refine TL_y rfl rfl (Y_assign rfl) ?_
  refine TL_nil ?_
  refine T_seq ?_
  refine T_region ?_
  refine TL_call rfl rfl (lives01_spec _) ?_
  rintro _ _ ⟨rfl, rfl⟩
  refine TL_name 47 (v' := .bool true) rfl (rfl) ?_
  refine TL_y rfl rfl (Y_not_t rfl) ?_
  refine TL_y rfl rfl (Y_move rfl) ?_
  refine TL_grun rfl rfl ?_
  refine TL_y rfl rfl (Y_move rfl) ?_
  refine TL_grun rfl rfl ?_
  refine TL_y rfl rfl (Y_move rfl) ?_
  refine TL_grun rfl rfl ?_
  refine TL_y rfl rfl (Y_ne rfl rfl) ?_
  refine TL_name 52 (v' := .bool false) rfl (congrArg Value.bool (by simp)) ?_
  refine TL_y rfl rfl (Y_pick_f rfl rfl) ?_
  refine TL_y rfl rfl (Y_move rfl) ?_
  refine TL_grun rfl rfl ?_
  refine TL_y rfl rfl (Y_move rfl) ?_
  refine TL_grun rfl rfl ?_
  refine TL_y rfl rfl (Y_move rfl) ?_
  refine TL_grun rfl rfl ?_
  refine TL_y rfl rfl (Y_ne rfl rfl) ?_
  refine TL_name 57 (v' := .bool false) rfl (congrArg Value.bool (by simp)) ?_
  refine TL_y rfl rfl (Y_pick_f rfl rfl) ?_
  refine TL_y rfl rfl (Y_move rfl) ?_
  refine TL_grun rfl rfl ?_
  refine TL_y rfl rfl (Y_move rfl) ?_
  refine TL_grun rfl rfl ?_
  refine TL_y rfl rfl (Y_move rfl) ?_
  refine TL_grun rfl rfl ?_
  refine TL_y rfl rfl (Y_ne rfl rfl) ?_
  refine TL_name 62 (v' := .bool false) rfl (congrArg Value.bool (by simp)) ?_
  refine TL_y rfl rfl (Y_pick_f rfl rfl) ?_
  refine TL_y rfl rfl (Y_move rfl) ?_
  refine TL_grun rfl rfl ?_
  refine TL_y rfl rfl (Y_move rfl) ?_
  refine TL_grun rfl rfl ?_
  refine TL_y rfl rfl (Y_move rfl) ?_
  refine TL_grun rfl rfl ?_
  refine TL_y rfl rfl (Y_str_ne rfl rfl) ?_
  refine TL_name 67 (v' := .bool false) rfl (congrArg Value.bool (by simp)) ?_
  refine TL_y rfl rfl (Y_pick_f rfl rfl) ?_
  refine TL_y rfl rfl (Y_move rfl) ?_
  refine TL_grun rfl rfl ?_
  refine TL_y rfl rfl (Y_move rfl) ?_
  refine TL_grun rfl rfl ?_
  refine TL_y rfl rfl (Y_move rfl) ?_
  refine TL_grun rfl rfl ?_
  refine TL_y rfl rfl (Y_ne rfl rfl) ?_
  refine TL_name 72 (v' := .bool false) rfl (congrArg Value.bool (by simp)) ?_
  refine TL_y rfl rfl (Y_pick_f rfl rfl) ?_
  refine TL_y rfl rfl (Y_move rfl) ?_
  refine TL_grun rfl rfl ?_
  refine TL_y rfl rfl (Y_move rfl) ?_
  refine TL_grun rfl rfl ?_
  refine TL_y rfl rfl (Y_move rfl) ?_
  refine TL_grun rfl rfl ?_
  refine TL_y rfl rfl (Y_ne rfl rfl) ?_
  refine TL_name 77 (v' := .bool false) rfl (congrArg Value.bool (by simp)) ?_
  refine TL_y rfl rfl (Y_pick_f rfl rfl) ?_
  refine TL_y rfl rfl (Y_move rfl) ?_
  refine TL_grun rfl rfl ?_
  refine TL_y rfl rfl (Y_move rfl) ?_
  refine TL_grun rfl rfl ?_
  refine TL_y rfl rfl (Y_bytes_str rfl slk) ?_
  refine TL_grun rfl rfl ?_
  refine TL_y rfl rfl (Y_move rfl) ?_
  refine TL_grun rfl rfl ?_
  refine TL_y rfl rfl (Y_bytes_str rfl slk) ?_
  refine TL_grun rfl rfl ?_
  refine TL_y rfl rfl (Y_str_ne rfl rfl) ?_
  refine TL_name 84 (v' := .bool false) rfl (congrArg Value.bool (by simp)) ?_
  refine TL_y rfl rfl (Y_pick_f rfl rfl) ?_
  refine TL_nil ?_
  refine T_cond_false rfl ?_
  refine T_skip ?_
  refine thenS_normal ?_
  refine T_seq ?_
  refine T_region_draw _ [0, 1, 3, 7, 15, 31, 7, 7, 199, 455, 1023, 2047] [] [(0, true), (1, true), (2, true), (3, true), (6, true), (7, true), (8, true), (9, true), (4, false), (5, false), (10, true), (11, true)] (by kernel_rfl) (by decide +kernel) (Gives.refl _) ?_
  refine TF_y rfl rfl (Y_move rfl) ?_
  refine TF_y rfl rfl (Y_eq rfl rfl) ?_
  refine TF_y rfl rfl (Y_move rfl) ?_
  refine TF_splitd 88 rfl (fun h88 => ?_) (fun h88 => ?_)
  · obtain rfl : e = 0 := by omega
    obtain ⟨hx1, hx2, hx3⟩ := rdU_take hr
    refine TF_gy rfl rfl rfl rfl (Y_move rfl) ?_
    refine TF_gy rfl rfl rfl rfl (Y_move rfl) ?_
    refine TF_gy rfl rfl rfl rfl (Y_move rfl) ?_
    refine TF_gy rfl rfl rfl rfl (Y_cut_h rfl rfl (by omega)) ?_
    refine TF_name 94 (v' := .slice A (bs.take n).length c) rfl (by simp; omega) ?_
    refine TF_gy rfl rfl rfl rfl (Y_bytes_str rfl (SlK.take slk n)) ?_
    refine TF_anchor rfl ?_
    refine TL_grun rfl rfl ?_
    refine TL_call rfl rfl (uint_spec (A := none) (c := 0) (xs := []) slnil x hx3 (by simp)) ?_
    rintro _ _ ⟨A90, c90, rfl, rfl⟩
    simp only [List.nil_append]
    refine TL_freeze_osl ?_
    refine TF_end GivesTo.g ?_
    refine TF_anchor rfl ?_
    refine TL_grun rfl rfl ?_
    refine TL_y rfl rfl (Y_bytes_str rfl slk) ?_
    refine TF_end GivesTo.g ?_
    refine TF_gy rfl rfl rfl rfl (Y_str_ne rfl rfl) ?_
    refine TF_name 96 (v' := .bool false) rfl (congrArg Value.bool (by rw [hx1]; simp)) ?_
    refine TF_y rfl rfl (Y_pick_t rfl rfl) ?_
    refine TF_nil ?_
    refine T_cond_false rfl ?_
    refine T_skip ?_
    refine thenS_normal ?_
    refine T_region_draw _ [0, 1, 3, 7, 15, 31, 7, 7, 199, 455, 1023, 2047, 4095] [] [(0, true), (1, true), (2, true), (3, true), (6, true), (7, true), (8, true), (9, true), (4, false), (5, false), (10, true), (11, true), (12, true)] (by kernel_rfl) (by decide +kernel) (Gives.refl _) ?_
    refine TF_y rfl rfl (Y_move rfl) ?_
    refine TF_y rfl rfl (Y_ne rfl rfl) ?_
    refine TF_y rfl rfl (Y_move rfl) ?_
    refine TF_splitd 100 rfl (fun h100 => ?_) (fun h100 => ?_)
    · refine TF_gskip rfl rfl rfl rfl rfl ?_
      refine TF_gskip rfl rfl rfl rfl rfl ?_
      refine TF_gskip rfl rfl rfl rfl rfl ?_
      refine TF_gskip rfl rfl rfl rfl rfl ?_
      refine TF_gskip rfl rfl rfl rfl rfl ?_
      refine TF_anchor rfl ?_
      refine TL_gskip rfl rfl rfl rfl ?_
      refine TF_end GivesTo.g ?_
      refine TF_anchor rfl ?_
      refine TL_gskip rfl rfl rfl rfl ?_
      refine TF_end GivesTo.g ?_
      refine TF_gskip rfl rfl rfl rfl rfl ?_
      refine TF_y rfl rfl (Y_pick_t rfl rfl) ?_
      refine TF_y rfl rfl (Y_assign rfl) ?_
      refine TF_nil ?_
      refine T_ret ?_
      exact RetG_1 (.inl rfl) rfl (ResV.tmp rfl) GivesTo.g (⟨rfl, rfl⟩)
    · obtain rfl : g = 0 := by omega
      obtain ⟨hy1, hy2, hy3⟩ := rdT_take ht
      refine TF_gy rfl rfl rfl rfl (Y_move rfl) ?_
      refine TF_gy rfl rfl rfl rfl (Y_move rfl) ?_
      refine TF_gy rfl rfl rfl rfl (Y_move rfl) ?_
      refine TF_gy rfl rfl rfl rfl (Y_cut_h rfl rfl (by omega)) ?_
      refine TF_name 106 (v' := .slice A (bs.take k).length c) rfl (by simp; omega) ?_
      refine TF_gy rfl rfl rfl rfl (Y_bytes_str rfl (SlK.take slk k)) ?_
      refine TF_anchor rfl ?_
      refine TL_grun rfl rfl ?_
      refine TL_call rfl rfl (text_spec (A := none) (c := 0) (xs := []) slnil s (by have := txt_length s; simp; omega)) ?_
      rintro _ _ ⟨A102, c102, rfl, rfl⟩
      simp only [List.nil_append]
      refine TL_freeze_osl ?_
      refine TF_end GivesTo.g ?_
      refine TF_anchor rfl ?_
      refine TL_grun rfl rfl ?_
      refine TL_y rfl rfl (Y_bytes_str rfl slk) ?_
      refine TF_end GivesTo.g ?_
      refine TF_gy rfl rfl rfl rfl (Y_str_eq rfl rfl) ?_
      refine TF_name 108 (v' := .bool true) rfl (congrArg Value.bool (by rw [hy1]; simp)) ?_
      refine TF_y rfl rfl (Y_pick_f rfl rfl) ?_
      refine TF_y rfl rfl (Y_assign rfl) ?_
      refine TF_nil ?_
      refine T_ret ?_
      exact RetG_1 (.inl rfl) rfl (ResV.tmp rfl) GivesTo.g (⟨rfl, rfl⟩)
  · refine TF_gskip rfl rfl rfl rfl rfl ?_
    refine TF_gskip rfl rfl rfl rfl rfl ?_
    refine TF_gskip rfl rfl rfl rfl rfl ?_
    refine TF_gskip rfl rfl rfl rfl rfl ?_
    refine TF_gskip rfl rfl rfl rfl rfl ?_
    refine TF_anchor rfl ?_
    refine TL_gskip rfl rfl rfl rfl ?_
    refine TF_end GivesTo.g ?_
    refine TF_anchor rfl ?_
    refine TL_gskip rfl rfl rfl rfl ?_
    refine TF_end GivesTo.g ?_
    refine TF_gskip rfl rfl rfl rfl rfl ?_
    refine TF_y rfl rfl (Y_pick_f rfl rfl) ?_
    refine TF_nil ?_
    refine T_cond_false rfl ?_
    refine T_skip ?_
    refine thenS_normal ?_
    refine T_region_draw _ [0, 1, 3, 7, 15, 31, 7, 7, 199, 455, 1023, 2047, 4095] [] [(0, true), (1, true), (2, true), (3, true), (6, true), (7, true), (8, true), (9, true), (4, false), (5, false), (10, true), (11, true), (12, true)] (by kernel_rfl) (by decide +kernel) (Gives.refl _) ?_
    refine TF_y rfl rfl (Y_move rfl) ?_
    refine TF_y rfl rfl (Y_ne rfl rfl) ?_
    refine TF_y rfl rfl (Y_move rfl) ?_
    refine TF_splitd 100 rfl (fun h100 => ?_) (fun h100 => ?_)
    · refine TF_gskip rfl rfl rfl rfl rfl ?_
      refine TF_gskip rfl rfl rfl rfl rfl ?_
      refine TF_gskip rfl rfl rfl rfl rfl ?_
      refine TF_gskip rfl rfl rfl rfl rfl ?_
      refine TF_gskip rfl rfl rfl rfl rfl ?_
      refine TF_anchor rfl ?_
      refine TL_gskip rfl rfl rfl rfl ?_
      refine TF_end GivesTo.g ?_
      refine TF_anchor rfl ?_
      refine TL_gskip rfl rfl rfl rfl ?_
      refine TF_end GivesTo.g ?_
      refine TF_gskip rfl rfl rfl rfl rfl ?_
      refine TF_y rfl rfl (Y_pick_t rfl rfl) ?_
      refine TF_y rfl rfl (Y_assign rfl) ?_
      refine TF_nil ?_
      refine T_ret ?_
      exact RetG_1 (.inl rfl) rfl (ResV.tmp rfl) GivesTo.g (⟨rfl, rfl⟩)
    · obtain rfl : g = 0 := by omega
      obtain ⟨hy1, hy2, hy3⟩ := rdT_take ht
      refine TF_gy rfl rfl rfl rfl (Y_move rfl) ?_
      refine TF_gy rfl rfl rfl rfl (Y_move rfl) ?_
      refine TF_gy rfl rfl rfl rfl (Y_move rfl) ?_
      refine TF_gy rfl rfl rfl rfl (Y_cut_h rfl rfl (by omega)) ?_
      refine TF_name 106 (v' := .slice A (bs.take k).length c) rfl (by simp; omega) ?_
      refine TF_gy rfl rfl rfl rfl (Y_bytes_str rfl (SlK.take slk k)) ?_
      refine TF_anchor rfl ?_
      refine TL_grun rfl rfl ?_
      refine TL_call rfl rfl (text_spec (A := none) (c := 0) (xs := []) slnil s (by have := txt_length s; simp; omega)) ?_
      rintro _ _ ⟨A102, c102, rfl, rfl⟩
      simp only [List.nil_append]
      refine TL_freeze_osl ?_
      refine TF_end GivesTo.g ?_
      refine TF_anchor rfl ?_
      refine TL_grun rfl rfl ?_
      refine TL_y rfl rfl (Y_bytes_str rfl slk) ?_
      refine TF_end GivesTo.g ?_
      refine TF_gy rfl rfl rfl rfl (Y_str_eq rfl rfl) ?_
      refine TF_name 108 (v' := .bool true) rfl (congrArg Value.bool (by rw [hy1]; simp)) ?_
      refine TF_y rfl rfl (Y_pick_f rfl rfl) ?_
      refine TF_y rfl rfl (Y_assign rfl) ?_
      refine TF_nil ?_
      refine T_ret ?_
      exact RetG_1 (.inl rfl) rfl (ResV.tmp rfl) GivesTo.g (⟨rfl, rfl⟩)

theorem codecTexts_walk {L : List HP} {A : Option Addr} {c : Nat} {bs : List Int} (s : ByteArray) (hk : SlK L (intR .u8) A c bs) (most : Int) (hm : intIn .i64 most) (h0 : s.size ≤ 1048576) (h1 : bs.length ≤ 1048576) :
    Fn Try.prog 5 #[.string s, .slice A bs.length c, .int .i64 most] L (fun v L' => v = .bool true ∧ L' = L) := by
  have hm' := i64In hm
  have hg := grp_ten (x := s.size) (by omega)
  have htl := txt_length s
  refine Fn_enter Try.func5 rfl rfl rfl rfl ?_
  refine T_fact hk.all_int (fun _ h => h) fun ha => ?_
  refine hk.lens fun hl => ?_
  refine T_gives hk.lay ?_
  refine T_region ?_
  refine TL_y rfl rfl (Y_assign rfl) ?_
  refine TL_nil ?_
  refine T_region ?_
  refine TL_y rfl rfl (Y_move rfl) ?_
  refine TL_call rfl rfl (text_spec (A := none) (c := 0) (xs := []) slnil s (by simp; omega)) ?_
  rintro _ _ ⟨A12, c12, rfl, rfl⟩
  simp only [List.nil_append]
  refine TL_freeze_osl ?_
  refine TL_y rfl rfl (Y_assign rfl) ?_
  refine TL_nil ?_
  refine T_region ?_
  refine TL_build_slice rfl rfl rfl rfl rfl rfl ?_
  intro b14
  refine TL_osl (k := 0) (intR .u8) [] (Knows.const fun M => rfl) rfl (by decide) ?_
  refine TL_name 14 (v' := .slice (some ⟨b14, 0, none⟩) ([] : List Int).length 0) rfl rfl ?_
  refine TL_y rfl rfl (Y_move rfl) ?_
  refine TL_append rfl rfl rfl rfl rfl slk (by (try simp only [List.length_append, List.length_cons, List.length_nil]); omega) ?_
  intro A16 c16
  simp only [List.nil_append]
  refine TL_y rfl rfl (Y_move rfl) ?_
  refine TL_append rfl rfl rfl rfl rfl slk (by (try simp only [List.length_append, List.length_cons, List.length_nil]); omega) ?_
  intro A18 c18
  refine TL_freeze_osl ?_
  refine TL_y rfl rfl (Y_move rfl) ?_
  refine TL_call rfl rfl (readText_spec slk most hm) ?_
  rintro _ _ ⟨⟨t, n, e, rfl, hr⟩, rfl⟩
  refine TL_y rfl rfl (Y_move rfl) ?_
  refine TL_y rfl rfl (Y_extract rfl rfl) ?_
  refine TL_y rfl rfl (Y_extract rfl rfl) ?_
  refine TL_y rfl rfl (Y_extract rfl rfl) ?_
  refine TL_y rfl rfl (Y_assign rfl) ?_
  refine TL_y rfl rfl (Y_assign rfl) ?_
  refine TL_y rfl rfl (Y_assign rfl) ?_
  refine TL_nil ?_
  refine T_seq ?_
  refine T_region_draw _ [0, 1, 3, 7, 15, 7, 39, 103, 255, 511, 1023, 2047, 4095, 2047, 16383, 32767, 65535] [] [(0, false), (1, true), (2, true), (3, true), (4, true), (5, true), (6, false), (7, false), (8, true), (9, true), (10, true), (11, true), (13, true), (12, false), (14, false), (15, true), (16, true)] (by kernel_rfl) (by decide +kernel) (Gives.refl _) ?_
  refine TF_anchor rfl ?_
  refine TL_call rfl rfl (lives01_spec _) ?_
  rintro _ _ ⟨rfl, rfl⟩
  refine TL_name 24 (v' := .bool true) rfl (rfl) ?_
  refine TF_end GivesTo.g ?_
  refine TF_y rfl rfl (Y_not_t rfl) ?_
  refine TF_y rfl rfl (Y_move rfl) ?_
  refine TF_gy rfl rfl rfl rfl (Y_move rfl) ?_
  refine TF_gy rfl rfl rfl rfl (Y_bytes_str rfl slk) ?_
  refine TF_gy rfl rfl rfl rfl (Y_move rfl) ?_
  refine TF_anchor rfl ?_
  refine TL_grun rfl rfl ?_
  refine TL_call rfl rfl (refText_spec _ s (by omega)) ?_
  rintro _ _ ⟨A30, c30, rfl, rfl⟩
  refine TL_freeze_osl ?_
  refine TF_end GivesTo.g ?_
  refine TF_anchor rfl ?_
  refine TL_grun rfl rfl ?_
  refine TL_y rfl rfl (Y_bytes_str rfl slk) ?_
  refine TF_end GivesTo.g ?_
  refine TF_gy rfl rfl rfl rfl (Y_str_ne rfl rfl) ?_
  refine TF_name 32 (v' := .bool false) rfl (congrArg Value.bool (by simp)) ?_
  refine TF_y rfl rfl (Y_pick_f rfl rfl) ?_
  refine TF_y rfl rfl (Y_move rfl) ?_
  refine TF_gy rfl rfl rfl rfl (Y_move rfl) ?_
  refine TF_gy rfl rfl rfl rfl (Y_move rfl) ?_
  refine TF_anchor rfl ?_
  refine TL_grun rfl rfl ?_
  refine TL_call rfl rfl (name_spec _ s (by simp only [maxEl]; omega)) ?_
  rintro _ _ ⟨rfl, rfl⟩
  refine TF_end GivesTo.g ?_
  refine TF_anchor rfl ?_
  refine TL_grun rfl rfl ?_
  refine TL_call rfl rfl (refName_spec _ s (by simp only [maxEl]; omega)) ?_
  rintro _ _ ⟨rfl, rfl⟩
  refine TF_end GivesTo.g ?_
  refine TF_gy rfl rfl rfl rfl (Y_unequal rfl rfl (EqIs.bool)) ?_
  refine TF_name 39 (v' := .bool false) rfl (congrArg Value.bool (by simp)) ?_
  refine TF_y rfl rfl (Y_pick_f rfl rfl) ?_
  refine TF_nil ?_
  refine T_cond_false rfl ?_
  refine T_skip ?_
  refine thenS_normal ?_
  refine T_seq ?_
  refine T_region ?_
  refine TL_y rfl rfl (Y_move rfl) ?_
  refine TL_y rfl rfl (Y_move rfl) ?_
  refine TL_y rfl rfl (Y_len_str rfl) ?_
  refine TL_y rfl rfl (Y_lt rfl rfl) ?_
  refine TL_nil ?_
  refine T_if rfl (fun h44 => ?_) (fun h44 => ?_)
  · obtain ⟨rfl, rfl, rfl⟩ : t = ⟨#[]⟩ ∧ n = 0 ∧ e = 10 := rdT_unique hm'.2 hr (rdT_short hm'.2 h44)
    refine T_region ?_
    refine TL_y rfl rfl (Y_move rfl) ?_
    refine TL_y rfl rfl (Y_str_eq rfl rfl) ?_
    refine TL_name 46 (v' := .bool true) rfl (congrArg Value.bool (by simp)) ?_
    refine TL_y rfl rfl (Y_move rfl) ?_
    refine TL_grun rfl rfl ?_
    refine TL_y rfl rfl (Y_move rfl) ?_
    refine TL_grun rfl rfl ?_
    refine TL_y rfl rfl (Y_eq rfl rfl) ?_
    refine TL_name 49 (v' := .bool true) rfl (congrArg Value.bool (by simp)) ?_
    refine TL_y rfl rfl (Y_pick_t rfl rfl) ?_
    refine TL_y rfl rfl (Y_move rfl) ?_
    refine TL_grun rfl rfl ?_
    refine TL_y rfl rfl (Y_move rfl) ?_
    refine TL_grun rfl rfl ?_
    refine TL_y rfl rfl (Y_eq rfl rfl) ?_
    refine TL_name 53 (v' := .bool true) rfl (congrArg Value.bool (by simp)) ?_
    refine TL_y rfl rfl (Y_pick_t rfl rfl) ?_
    refine TL_y rfl rfl (Y_assign rfl) ?_
    refine TL_nil ?_
    refine T_ret ?_
    refine thenS_ret ?_
    exact RetG_1 (.inl rfl) rfl (ResV.tmp rfl) GivesTo.g (⟨rfl, rfl⟩)
  · obtain ⟨rfl, rfl, rfl⟩ : t = s ∧ n = (txt s).length ∧ e = 0 := rdT_unique hm'.2 hr (.inl ⟨rfl, by omega, by simp, rfl, by simp⟩)
    refine T_skip ?_
    refine thenS_normal ?_
    refine T_region ?_
    refine TL_y rfl rfl (Y_move rfl) ?_
    refine TL_y rfl rfl (Y_move rfl) ?_
    refine TL_y rfl rfl (Y_str_eq rfl rfl) ?_
    refine TL_name 57 (v' := .bool true) rfl (congrArg Value.bool (by simp)) ?_
    refine TL_y rfl rfl (Y_move rfl) ?_
    refine TL_grun rfl rfl ?_
    refine TL_y rfl rfl (Y_move rfl) ?_
    refine TL_grun rfl rfl ?_
    refine TL_y rfl rfl (Y_move rfl) ?_
    refine TL_grun rfl rfl ?_
    refine TL_y rfl rfl (Y_len rfl) ?_
    refine TL_grun rfl rfl ?_
    refine TL_y rfl rfl (Y_eq rfl rfl) ?_
    refine TL_name 62 (v' := .bool true) rfl (congrArg Value.bool (by simp)) ?_
    refine TL_y rfl rfl (Y_pick_t rfl rfl) ?_
    refine TL_y rfl rfl (Y_move rfl) ?_
    refine TL_grun rfl rfl ?_
    refine TL_y rfl rfl (Y_move rfl) ?_
    refine TL_grun rfl rfl ?_
    refine TL_y rfl rfl (Y_eq rfl rfl) ?_
    refine TL_name 66 (v' := .bool true) rfl (congrArg Value.bool (by simp)) ?_
    refine TL_y rfl rfl (Y_pick_t rfl rfl) ?_
    refine TL_y rfl rfl (Y_assign rfl) ?_
    refine TL_nil ?_
    refine T_ret ?_
    exact RetG_1 (.inl rfl) rfl (ResV.tmp rfl) GivesTo.g (⟨rfl, rfl⟩)
end Go.SL
