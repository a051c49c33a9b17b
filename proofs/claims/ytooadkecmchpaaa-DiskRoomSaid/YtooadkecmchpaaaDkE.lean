/- Disk: Append, Rename. -/
import Derived.Test.YtooadkecmchpaaaDkD
set_option linter.unusedVariables false
set_option linter.unusedSimpArgs false
namespace Go.SL
open Go Go.Proofs
theorem fout_gives {l : List FileE} {e : FileE} {L0 L : List HP} [hf : FindHP L (allH (l.map fH)) L0] (hi : IncF l) (he : e ∈ l) : Gives L (fH e :: allH ((delF l e.name).map fH) :: L0) := hf.g.trans ((allH_perm ((delF_perm hi he).symm.map fH)).trans allH_uncons)
theorem doneK_dk {s t : DkS} (h : s = t) : doneK s = doneK t := by rw [h]
/-- A file that is there gets more bytes. -/
theorem diskAppend_some {L : List HP} {b bt : Nat} {s : DkS} {e : FileE} {A0 : Option Addr} {c0 : Nat} {xs : List Int} (k : ByteArray) (hk : k.size ≤ maxEl) (blk : Nat) (hx : SlN L (intR .u8) A0 c0 xs) (hxb : ∀ x ∈ xs, 0 ≤ x ∧ x ≤ 255) (hxl : xs.length ≤ maxEl) (hf : findF s.l k = some e) : Fn Try.prog 39 #[.pointer (some ⟨b, 0, none⟩), .string k, .slice A0 xs.length c0] (dk b bt s :: L) (fun v L' => v = .int .i64 (appendK s k xs blk).2 ∧ L' = dk b bt (appendK s k xs blk).1 :: L) := by
  obtain ⟨he, hen⟩ := findF_mem hf
  have hxl2 := hxl
  simp only [maxEl] at hxl2
  refine Fn_enter Try.func39 rfl rfl rfl rfl ?_
  refine T_region ?_
  refine TL_y rfl rfl (Y_assign rfl) ?_
  refine TL_nil ?_
  refine T_seq ?_
  refine T_block ?_
  refine T_region ?_
  refine TL_y rfl rfl (Y_move rfl) ?_
  refine TL_call rfl rfl (diskMade_spec) ?_
  rintro _ _ ⟨rfl, rfl⟩
  refine TL_name 10 (v' := .bool true) rfl (rfl) ?_
  refine TL_y rfl rfl (Y_not_t rfl) ?_
  refine TL_y rfl rfl (Y_assign rfl) ?_
  refine TL_nil ?_
  refine T_cond_false rfl ?_
  refine T_region ?_
  refine TL_y rfl rfl (Y_move rfl) ?_
  refine TL_call rfl rfl (name_spec _ k hk) ?_
  rintro _ _ ⟨rfl, rfl⟩
  refine TL_y rfl rfl (Y_not_d rfl) ?_
  refine TL_y rfl rfl (Y_assign rfl) ?_
  refine TL_nil ?_
  refine T_if rfl (fun h12 => ?_) (fun h12 => ?_)
  · refine T_region ?_
    refine TL_y rfl rfl (Y_assign rfl) ?_
    refine TL_nil ?_
    refine T_ret ?_
    refine inB_ret ?_
    refine thenS_ret ?_
    rw [show appendK s k xs blk = (s, 30) by unfold appendK; rw [if_pos h12]]
    exact RetG_1 (.inl rfl) rfl (ResV.tmp rfl) GivesTo.g (⟨rfl, rfl⟩)
  · refine T_skip ?_
    refine inB_normal ?_
    refine thenS_normal ?_
    refine T_seq ?_
    refine T_region ?_
    refine TL_y rfl rfl (Y_move rfl) ?_
    refine TL_call rfl rfl (diskOff_spec) ?_
    rintro _ _ ⟨rfl, rfl⟩
    refine TL_nil ?_
    refine T_if rfl (fun h17 => ?_) (fun h17 => ?_)
    · refine T_region ?_
      refine TL_y rfl rfl (Y_assign rfl) ?_
      refine TL_nil ?_
      refine T_ret ?_
      refine thenS_ret ?_
      rw [show appendK s k xs blk = (s, 31) by unfold appendK; rw [if_neg h12, if_pos h17]]
      exact RetG_1 (.inl rfl) rfl (ResV.tmp rfl) GivesTo.g (⟨rfl, rfl⟩)
    · refine T_skip ?_
      refine thenS_normal ?_
      refine T_dk fun hi => ?_
      have hz := hi.size
      have ht := hi.tot
      have hll : leftK s = s.size - (totF s.l : Int) := rfl
      refine T_region ?_
      refine TL_y rfl rfl (Y_move rfl) ?_
      refine TL_y rfl rfl (Y_nil_check rfl) ?_
      refine TL_y rfl rfl (Y_field_addr rfl) ?_
      refine TL_y rfl rfl (Y_load rfl rfl) ?_
      refine TL_y rfl rfl (Y_move rfl) ?_
      refine TL_y rfl rfl (Y_lookup (k := k) rfl rfl hk) ?_
      refine TL_name 23 (v' := .pointer (some ⟨e.blk, 0, none⟩)) rfl (by rw [look_ptr]; unfold fptr; rw [hf]; rfl) ?_
      refine TL_y rfl rfl (Y_assign rfl) ?_
      refine TL_nil ?_
      refine T_seq ?_
      refine T_region ?_
      refine TL_y rfl rfl (Y_move rfl) ?_
      refine TL_y rfl rfl (Y_len rfl) ?_
      refine TL_y rfl rfl (Y_move rfl) ?_
      refine TL_y rfl rfl (Y_nil_check rfl) ?_
      refine TL_y rfl rfl (Y_field_addr rfl) ?_
      refine TL_y rfl rfl (Y_load rfl rfl) ?_
      refine TL_y rfl rfl (Y_gt rfl rfl) ?_
      refine TL_y rfl rfl (Y_move rfl) ?_
      refine TL_splitd 31 rfl (fun h31 => ?_) (fun h31 => ?_)
      · refine TL_gskip rfl rfl rfl rfl ?_
        refine TL_gskip rfl rfl rfl rfl ?_
        refine TL_gskip rfl rfl rfl rfl ?_
        refine TL_gskip_u rfl rfl rfl ?_
        refine TL_gskip_u rfl rfl rfl ?_
        refine TL_gskip_u rfl rfl rfl ?_
        refine TL_gskip_u rfl rfl rfl ?_
        refine TL_gskip_u rfl rfl rfl ?_
        refine TL_gskip_u rfl rfl rfl ?_
        refine TL_gskip rfl rfl rfl rfl ?_
        refine TL_y rfl rfl (Y_pick_t rfl rfl) ?_
        refine TL_nil ?_
        refine T_cond_true rfl ?_
        refine T_region ?_
        refine TL_y rfl rfl (Y_assign rfl) ?_
        refine TL_nil ?_
        refine T_ret ?_
        refine thenS_ret ?_
        rw [show appendK s k xs blk = (s, 2) by unfold appendK; rw [if_neg h12, if_neg h17, if_pos (.inl (by omega))]]
        refine RetQ.gives (dk_close b bt s hi) ?_
        exact RetG_1 (.inl rfl) rfl (ResV.tmp rfl) GivesTo.g (⟨rfl, rfl⟩)
      · refine TL_grun rfl rfl ?_
        refine TL_y rfl rfl (Y_move rfl) ?_
        refine TL_grun rfl rfl ?_
        refine TL_y rfl rfl (Y_equal rfl rfl (EqIs.ptr_nil)) ?_
        refine TL_name 33 (v' := .bool false) rfl (by simp) ?_
        refine TL_grun rfl rfl ?_
        refine TL_y rfl rfl (Y_move rfl) ?_
        refine TL_gskip rfl rfl rfl rfl ?_
        refine TL_gskip rfl rfl rfl rfl ?_
        refine TL_gskip rfl rfl rfl rfl ?_
        refine TL_gskip rfl rfl rfl rfl ?_
        refine TL_gskip rfl rfl rfl rfl ?_
        refine TL_gskip rfl rfl rfl rfl ?_
        refine TL_grun rfl rfl ?_
        refine TL_y rfl rfl (Y_pick_f rfl rfl) ?_
        refine TL_y rfl rfl (Y_pick_f rfl rfl) ?_
        refine TL_nil ?_
        refine T_cond_false rfl ?_
        refine T_skip ?_
        refine thenS_normal ?_
        refine T_seq ?_
        refine T_region ?_
        refine TL_y rfl rfl (Y_move rfl) ?_
        refine TL_y rfl rfl (Y_equal rfl rfl (EqIs.ptr_nil)) ?_
        refine TL_name 44 (v' := .bool false) rfl (by simp) ?_
        refine TL_nil ?_
        refine T_cond_false rfl ?_
        refine T_skip ?_
        refine thenS_normal ?_
        have hs : appendK s k xs blk = (doneK ⟨s.size, s.calls, putF s.l ⟨k, e.blk, e.bytes ++ xs, e.synced⟩⟩, 0) := by unfold appendK; rw [if_neg h12, if_neg h17, if_neg (by rw [hf]; simp; omega), hf]
        subst hen
        have hki : KI ⟨s.size, s.calls, putF s.l ⟨e.name, e.blk, e.bytes ++ xs, e.synced⟩⟩ := by have h8 := hi.append e.name xs blk hxb; unfold appendK at h8; rw [if_neg h12, if_neg h17, if_neg (by rw [hf]; simp; omega), hf] at h8; exact ⟨hi.size, hi.calls, h8.inc, h8.len, h8.tot, h8.ok⟩
        have hdt := delF_tot hi.inc he
        have hpt := putF_totE (e' := ⟨e.name, e.blk, e.bytes ++ xs, e.synced⟩) hi.inc he rfl
        have hfm := fmap_same (e' := ⟨e.name, e.blk, e.bytes ++ xs, e.synced⟩) hi.inc he rfl rfl
        refine T_fout hi.inc he fun A c => ?_
        refine T_region ?_
        refine TL_y rfl rfl (Y_move rfl) ?_
        refine TL_y rfl rfl (Y_move rfl) ?_
        refine TL_y rfl rfl (Y_nil_check rfl) ?_
        refine TL_y rfl rfl (Y_field_addr rfl) ?_
        refine TL_y rfl rfl (Y_load rfl rfl) ?_
        refine TL_y rfl rfl (Y_move rfl) ?_
        refine TL_append_n (R := intR .u8) rfl rfl rfl rfl rfl (SlN.of_gives GivesTo.g hx) (by omega) ?_
        intro A59 c59
        refine TL_y rfl rfl (Y_nil_check rfl) ?_
        refine TL_y rfl rfl (Y_field_addr rfl) ?_
        refine TL_store rfl rfl rfl rfl rfl rfl ?_
        refine TL_nil ?_
        refine T_region ?_
        refine TL_y rfl rfl (Y_move rfl) ?_
        refine TL_y rfl rfl (Y_nil_check rfl) ?_
        refine TL_y rfl rfl (Y_field_addr rfl) ?_
        refine TL_y rfl rfl (Y_load rfl rfl) ?_
        refine TL_y rfl rfl (Y_move rfl) ?_
        refine TL_y rfl rfl (Y_len rfl) ?_
        refine TL_y rfl rfl (Y_sub rfl rfl (by omega)) ?_
        refine TL_y rfl rfl (Y_nil_check rfl) ?_
        refine TL_y rfl rfl (Y_field_addr rfl) ?_
        refine TL_store rfl rfl rfl rfl rfl rfl ?_
        refine TL_nil ?_
        refine T_gives (f_in (A := A59) (c := c59) (l := s.l) ⟨e.name, e.blk, e.bytes ++ xs, e.synced⟩) ?_
        refine T_gives (dk_close2 b bt ⟨s.size, s.calls, putF s.l ⟨e.name, e.blk, e.bytes ++ xs, e.synced⟩⟩ (n := leftK s - (xs.length : Int)) (m := fmap s.l) (by unfold leftK; dsimp only at hpt ⊢; rw [List.length_append] at hpt; omega) hfm hki) ?_
        refine T_region ?_
        refine TL_y rfl rfl (Y_move rfl) ?_
        refine TL_call rfl rfl (diskDone_spec) ?_
        rintro _ _ ⟨rfl, rfl⟩
        refine TL_y rfl rfl (Y_assign rfl) ?_
        refine TL_nil ?_
        refine T_ret ?_
        rw [hs]
        exact RetG_1 (.inl rfl) rfl (ResV.tmp rfl) GivesTo.g (⟨rfl, rfl⟩)
theorem fmap_put2 {l : List FileE} {e1 e2 : FileE} (hn : e1.name = e2.name) (hb : e1.blk = e2.blk) : fmap (putF l e1) = fmap (putF l e2) := by
  unfold putF insW; rw [hn]; simp [fmap, hn, hb]
/-- A new file. -/
theorem diskAppend_none {L : List HP} {b bt : Nat} {s : DkS} {A0 : Option Addr} {c0 : Nat} {xs : List Int} (k : ByteArray) (hk : k.size ≤ maxEl) (hx : SlN L (intR .u8) A0 c0 xs) (hxb : ∀ x ∈ xs, 0 ≤ x ∧ x ≤ 255) (hxl : xs.length ≤ maxEl) (hf : findF s.l k = none) : Fn Try.prog 39 #[.pointer (some ⟨b, 0, none⟩), .string k, .slice A0 xs.length c0] (dk b bt s :: L) (fun v L' => ∃ blk, v = .int .i64 (appendK s k xs blk).2 ∧ L' = dk b bt (appendK s k xs blk).1 :: L) := by
  have hxl2 := hxl
  simp only [maxEl] at hxl2
  have hdn := delF_none hf
  refine Fn_enter Try.func39 rfl rfl rfl rfl ?_
  refine T_region ?_
  refine TL_y rfl rfl (Y_assign rfl) ?_
  refine TL_nil ?_
  refine T_seq ?_
  refine T_block ?_
  refine T_region ?_
  refine TL_y rfl rfl (Y_move rfl) ?_
  refine TL_call rfl rfl (diskMade_spec) ?_
  rintro _ _ ⟨rfl, rfl⟩
  refine TL_name 10 (v' := .bool true) rfl (rfl) ?_
  refine TL_y rfl rfl (Y_not_t rfl) ?_
  refine TL_y rfl rfl (Y_assign rfl) ?_
  refine TL_nil ?_
  refine T_cond_false rfl ?_
  refine T_region ?_
  refine TL_y rfl rfl (Y_move rfl) ?_
  refine TL_call rfl rfl (name_spec _ k hk) ?_
  rintro _ _ ⟨rfl, rfl⟩
  refine TL_y rfl rfl (Y_not_d rfl) ?_
  refine TL_y rfl rfl (Y_assign rfl) ?_
  refine TL_nil ?_
  refine T_if rfl (fun h12 => ?_) (fun h12 => ?_)
  · refine T_region ?_
    refine TL_y rfl rfl (Y_assign rfl) ?_
    refine TL_nil ?_
    refine T_ret ?_
    refine inB_ret ?_
    refine thenS_ret ?_
    exact RetG_1 (.inl rfl) rfl (ResV.tmp rfl) GivesTo.g (⟨0, by unfold appendK; rw [if_pos h12], by unfold appendK; rw [if_pos h12]⟩)
  · refine T_skip ?_
    refine inB_normal ?_
    refine thenS_normal ?_
    refine T_seq ?_
    refine T_region ?_
    refine TL_y rfl rfl (Y_move rfl) ?_
    refine TL_call rfl rfl (diskOff_spec) ?_
    rintro _ _ ⟨rfl, rfl⟩
    refine TL_nil ?_
    refine T_if rfl (fun h17 => ?_) (fun h17 => ?_)
    · refine T_region ?_
      refine TL_y rfl rfl (Y_assign rfl) ?_
      refine TL_nil ?_
      refine T_ret ?_
      refine thenS_ret ?_
      exact RetG_1 (.inl rfl) rfl (ResV.tmp rfl) GivesTo.g (⟨0, by unfold appendK; rw [if_neg h12, if_pos h17], by unfold appendK; rw [if_neg h12, if_pos h17]⟩)
    · refine T_skip ?_
      refine thenS_normal ?_
      refine T_dk fun hi => ?_
      have hz := hi.size
      have ht := hi.tot
      have hll : leftK s = s.size - (totF s.l : Int) := rfl
      refine T_region ?_
      refine TL_y rfl rfl (Y_move rfl) ?_
      refine TL_y rfl rfl (Y_nil_check rfl) ?_
      refine TL_y rfl rfl (Y_field_addr rfl) ?_
      refine TL_y rfl rfl (Y_load rfl rfl) ?_
      refine TL_y rfl rfl (Y_move rfl) ?_
      refine TL_y rfl rfl (Y_lookup (k := k) rfl rfl hk) ?_
      refine TL_name 23 (v' := .pointer none) rfl (by rw [look_ptr]; unfold fptr; rw [hf]; rfl) ?_
      refine TL_y rfl rfl (Y_assign rfl) ?_
      refine TL_nil ?_
      refine T_seq ?_
      refine T_region ?_
      refine TL_y rfl rfl (Y_move rfl) ?_
      refine TL_y rfl rfl (Y_len rfl) ?_
      refine TL_y rfl rfl (Y_move rfl) ?_
      refine TL_y rfl rfl (Y_nil_check rfl) ?_
      refine TL_y rfl rfl (Y_field_addr rfl) ?_
      refine TL_y rfl rfl (Y_load rfl rfl) ?_
      refine TL_both 13 42 (leftK s < (xs.length : Int) ∨ (findF s.l k = none ∧ 64 ≤ s.l.length)) ?_ ?_
      · refine TL_y rfl rfl (Y_gt rfl rfl) ?_
        refine TL_y rfl rfl (Y_move rfl) ?_
        refine TL_splitd 31 rfl (fun h31 => ?_) (fun h31 => ?_)
        · refine TL_gskip rfl rfl rfl rfl ?_
          refine TL_gskip rfl rfl rfl rfl ?_
          refine TL_gskip rfl rfl rfl rfl ?_
          refine TL_gskip_u rfl rfl rfl ?_
          refine TL_gskip_u rfl rfl rfl ?_
          refine TL_gskip_u rfl rfl rfl ?_
          refine TL_gskip_u rfl rfl rfl ?_
          refine TL_gskip_u rfl rfl rfl ?_
          refine TL_gskip_u rfl rfl rfl ?_
          refine TL_gskip rfl rfl rfl rfl ?_
          refine TL_y rfl rfl (Y_pick_t rfl rfl) ?_
          refine TL_chain_end rfl ?_ (by repeat (first | exact sub_refl | refine sub_ext rfl ?_)) GivesTo.g
          exact congrArg Value.bool (decide_eq_true (by rw [hf]; simp; omega)).symm
        · refine TL_grun rfl rfl ?_
          refine TL_y rfl rfl (Y_move rfl) ?_
          refine TL_grun rfl rfl ?_
          refine TL_y rfl rfl (Y_equal rfl rfl (EqIs.ptr_nil)) ?_
          refine TL_name 33 (v' := .bool true) rfl (by simp) ?_
          refine TL_grun rfl rfl ?_
          refine TL_y rfl rfl (Y_move rfl) ?_
          refine TL_grun rfl rfl ?_
          refine TL_y rfl rfl (Y_move rfl) ?_
          refine TL_grun rfl rfl ?_
          refine TL_y rfl rfl (Y_nil_check rfl) ?_
          refine TL_grun rfl rfl ?_
          refine TL_y rfl rfl (Y_field_addr rfl) ?_
          refine TL_grun rfl rfl ?_
          refine TL_y rfl rfl (Y_load rfl rfl) ?_
          refine TL_grun rfl rfl ?_
          refine TL_y rfl rfl (Y_len_map rfl ) ?_
          refine TL_name 39 (v' := .int .i64 (s.l.length : Int)) rfl (by simp) ?_
          refine TL_grun rfl rfl ?_
          refine TL_y rfl rfl (Y_ge rfl rfl) ?_
          refine TL_grun rfl rfl ?_
          refine TL_y rfl rfl (Y_pick_t rfl rfl) ?_
          refine TL_y rfl rfl (Y_pick_f rfl rfl) ?_
          refine TL_chain_end rfl ?_ (by repeat (first | exact sub_refl | refine sub_ext rfl ?_)) GivesTo.g
          exact congrArg Value.bool (decide_eq_decide.2 (by rw [hf]; simp; omega))
      refine TL_nil ?_
      refine T_if rfl (fun h42 => ?_) (fun h42 => ?_)
      · refine T_region ?_
        refine TL_y rfl rfl (Y_assign rfl) ?_
        refine TL_nil ?_
        refine T_ret ?_
        refine thenS_ret ?_
        refine RetQ.gives (dk_close b bt s hi) ?_
        exact RetG_1 (.inl rfl) rfl (ResV.tmp rfl) GivesTo.g (⟨0, by unfold appendK; rw [if_neg h12, if_neg h17, if_pos h42], by unfold appendK; rw [if_neg h12, if_neg h17, if_pos h42]⟩)
      · refine T_skip ?_
        refine thenS_normal ?_
        refine T_seq ?_
        refine T_region ?_
        refine TL_y rfl rfl (Y_move rfl) ?_
        refine TL_y rfl rfl (Y_equal rfl rfl (EqIs.ptr_nil)) ?_
        refine TL_name 44 (v' := .bool true) rfl (by simp) ?_
        refine TL_nil ?_
        refine T_cond_true rfl ?_
        refine T_region ?_
        refine TL_y rfl rfl (Y_build rfl rfl) ?_
        refine TL_box rfl rfl rfl ?_
        intro b46
        refine TL_y rfl rfl (Y_assign rfl) ?_
        refine TL_nil ?_
        refine T_region_last ?_
        refine TL_y rfl rfl (Y_move rfl) ?_
        refine TL_y rfl rfl (Y_nil_check rfl) ?_
        refine TL_y rfl rfl (Y_field_addr rfl) ?_
        refine TL_y rfl rfl (Y_load rfl rfl) ?_
        refine TL_y rfl rfl (Y_move rfl) ?_
        refine TL_y rfl rfl (Y_move rfl) ?_
        refine TL_update (R := fpR) (k := k) (u := b46) (cs := [.pointer (some ⟨b46, 0, none⟩)]) (fmap (putF s.l ⟨k, b46, [], 0⟩)) rfl rfl rfl hk (Knows.const (ptr_rep b46)) (put_fmap s.l ⟨k, b46, [], 0⟩) ?_
        refine TL_nil ?_
        refine thenS_normal ?_
        have hs : appendK s k xs b46 = (doneK ⟨s.size, s.calls, putF s.l ⟨k, b46, xs, 0⟩⟩, 0) := by unfold appendK; rw [if_neg h12, if_neg h17, if_neg h42, hf]
        have hki : KI ⟨s.size, s.calls, putF s.l ⟨k, b46, xs, 0⟩⟩ := by have h8 := hi.append k xs b46 hxb; rw [hs] at h8; exact ⟨hi.size, hi.calls, h8.inc, h8.len, h8.tot, h8.ok⟩
        have hpt := putF_tot (l := s.l) ⟨k, b46, xs, 0⟩
        have hfm := fmap_put2 (l := s.l) (e1 := ⟨k, b46, xs, 0⟩) (e2 := ⟨k, b46, [], 0⟩) rfl rfl
        refine T_gives (osl_nil (intR .u8) 5 none _) ?_
        refine T_region ?_
        refine TL_y rfl rfl (Y_move rfl) ?_
        refine TL_y rfl rfl (Y_move rfl) ?_
        refine TL_y rfl rfl (Y_nil_check rfl) ?_
        refine TL_y rfl rfl (Y_field_addr rfl) ?_
        refine TL_y rfl rfl (Y_load rfl rfl) ?_
        refine TL_y rfl rfl (Y_move rfl) ?_
        refine TL_append_n (R := intR .u8) (xs := []) rfl rfl rfl rfl rfl (SlN.of_gives GivesTo.g hx) (by simp; omega) ?_
        intro A59 c59
        rw [List.nil_append]
        refine TL_y rfl rfl (Y_nil_check rfl) ?_
        refine TL_y rfl rfl (Y_field_addr rfl) ?_
        refine TL_store rfl rfl rfl rfl rfl rfl ?_
        refine TL_nil ?_
        refine T_region ?_
        refine TL_y rfl rfl (Y_move rfl) ?_
        refine TL_y rfl rfl (Y_nil_check rfl) ?_
        refine TL_y rfl rfl (Y_field_addr rfl) ?_
        refine TL_y rfl rfl (Y_load rfl rfl) ?_
        refine TL_y rfl rfl (Y_move rfl) ?_
        refine TL_y rfl rfl (Y_len rfl) ?_
        refine TL_y rfl rfl (Y_sub rfl rfl (by omega)) ?_
        refine TL_y rfl rfl (Y_nil_check rfl) ?_
        refine TL_y rfl rfl (Y_field_addr rfl) ?_
        refine TL_store rfl rfl rfl rfl rfl rfl ?_
        refine TL_nil ?_
        rw [show s.l.map fH = (delF s.l k).map fH by rw [hdn]]
        refine T_gives (f_in (A := A59) (c := c59) (l := s.l) ⟨k, b46, xs, 0⟩) ?_
        refine T_gives (dk_close2 b bt ⟨s.size, s.calls, putF s.l ⟨k, b46, xs, 0⟩⟩ (n := leftK s - (xs.length : Int)) (m := fmap (putF s.l ⟨k, b46, [], 0⟩)) (by unfold leftK; dsimp only at hpt ⊢; rw [hdn] at hpt; omega) hfm hki) ?_
        refine T_region ?_
        refine TL_y rfl rfl (Y_move rfl) ?_
        refine TL_call rfl rfl (diskDone_spec) ?_
        rintro _ _ ⟨rfl, rfl⟩
        refine TL_y rfl rfl (Y_assign rfl) ?_
        refine TL_nil ?_
        refine T_ret ?_
        exact RetG_1 (.inl rfl) rfl (ResV.tmp rfl) GivesTo.g (⟨b46, by rw [hs], by rw [hs]⟩)
theorem diskAppend_spec {L : List HP} {b bt : Nat} {s : DkS} {A0 : Option Addr} {c0 : Nat} {xs : List Int} (k : ByteArray) (hk : k.size ≤ maxEl) (hx : SlN L (intR .u8) A0 c0 xs) (hxb : ∀ x ∈ xs, 0 ≤ x ∧ x ≤ 255) (hxl : xs.length ≤ maxEl) : Fn Try.prog 39 #[.pointer (some ⟨b, 0, none⟩), .string k, .slice A0 xs.length c0] (dk b bt s :: L) (fun v L' => ∃ blk, v = .int .i64 (appendK s k xs blk).2 ∧ L' = dk b bt (appendK s k xs blk).1 :: L) := by
  cases hf : findF s.l k with
  | none => exact diskAppend_none k hk hx hxb hxl hf
  | some e => exact (diskAppend_some k hk 0 hx hxb hxl hf).cases_ fun v L' h => ⟨0, h⟩
end Go.SL
