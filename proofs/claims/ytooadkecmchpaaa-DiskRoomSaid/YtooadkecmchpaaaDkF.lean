/- Disk: Rename. -/
import Derived.Test.YtooadkecmchpaaaDkE
set_option linter.unusedVariables false
set_option linter.unusedSimpArgs false
namespace Go.SL
open Go Go.Proofs
theorem delF_comm (l : List FileE) (a b : ByteArray) : delF (delF l a) b = delF (delF l b) a := by
  unfold delF; rw [List.filter_filter, List.filter_filter]; congr 1; funext e; exact Bool.and_comm _ _
theorem delF_idem (l : List FileE) (a : ByteArray) : delF (delF l a) a = delF l a := by
  unfold delF; rw [List.filter_filter]; congr 1; funext e; exact Bool.and_self _
theorem ren_put {l : List FileE} {k : ByteArray} (e : FileE) : putF (delF (delF l e.name) k) e = putF (delF l k) e := by
  unfold putF; rw [delF_comm l e.name k, delF_idem]
theorem ren_gives {l : List FileE} {e : FileE} {to_ : ByteArray} {L L0 : List HP} [hf : FindHP L (allH (l.map fH)) L0] (hi : IncF l) (he : e ∈ l) (hn : ∀ q ∈ delF l e.name, q.name ≠ to_) : Gives L (allH ((putF (delF l e.name) ⟨to_, e.blk, e.bytes, e.synced⟩).map fH) :: L0) := by
  have hd : delF (delF l e.name) to_ = delF l e.name := List.filter_eq_self.2 fun q hq => by simpa using hn q hq
  refine (fout_gives hi he).trans (Gives.trans (B := fH ⟨to_, e.blk, e.bytes, e.synced⟩ :: allH ((delF l e.name).map fH) :: L0) (Gives.refl _) ?_)
  refine allH_cons.trans (allH_perm ?_)
  have := ((putF_perm (l := delF l e.name) ⟨to_, e.blk, e.bytes, e.synced⟩).map fH).symm
  rw [hd] at this
  exact this
theorem ren_tot {l : List FileE} {e : FileE} {to_ : ByteArray} (hi : IncF l) (he : e ∈ l) (hn : ∀ q ∈ delF l e.name, q.name ≠ to_) : totF (putF (delF l e.name) ⟨to_, e.blk, e.bytes, e.synced⟩) = totF l := by
  have hd : delF (delF l e.name) to_ = delF l e.name := List.filter_eq_self.2 fun q hq => by simpa using hn q hq
  have := delF_tot hi he
  rw [putF_tot]; dsimp only; rw [hd]; omega
theorem diskRename_bad {L : List HP} {b bt : Nat} {s : DkS} (k k2 : ByteArray) (hk : k.size ≤ maxEl) (hk2 : k2.size ≤ maxEl) (hb : ¬ isName k2 ∨ offK s ∨ findF s.l k = none) : Fn Try.prog 42 #[.pointer (some ⟨b, 0, none⟩), .string k, .string k2] (dk b bt s :: L) (fun v L' => v = .int .i64 (renameK s k k2).2 ∧ L' = dk b bt (renameK s k k2).1 :: L) := by
  refine Fn_enter Try.func42 rfl rfl rfl rfl ?_
  refine T_region ?_
  refine TL_y rfl rfl (Y_assign rfl) ?_
  refine TL_nil ?_
  refine T_seq ?_
  refine T_block ?_
  refine T_region ?_
  refine TL_y rfl rfl (Y_move rfl) ?_
  refine TL_call rfl rfl (diskMade_spec) ?_
  rintro _ _ ⟨rfl, rfl⟩
  refine TL_name 12 (v' := .bool true) rfl (rfl) ?_
  refine TL_y rfl rfl (Y_not_t rfl) ?_
  refine TL_y rfl rfl (Y_assign rfl) ?_
  refine TL_nil ?_
  refine T_cond_false rfl ?_
  refine T_region ?_
  refine TL_y rfl rfl (Y_move rfl) ?_
  refine TL_call rfl rfl (name_spec _ k2 hk2) ?_
  rintro _ _ ⟨rfl, rfl⟩
  refine TL_y rfl rfl (Y_not_d rfl) ?_
  refine TL_y rfl rfl (Y_assign rfl) ?_
  refine TL_nil ?_
  refine T_if rfl (fun h14 => ?_) (fun h14 => ?_)
  · refine T_region ?_
    refine TL_y rfl rfl (Y_assign rfl) ?_
    refine TL_nil ?_
    refine T_ret ?_
    refine inB_ret ?_
    refine thenS_ret ?_
    rw [show renameK s k k2 = (s, 30) by unfold renameK; rw [if_pos h14]]
    exact RetG_1 (.inl rfl) rfl (ResV.tmp rfl) GivesTo.g (⟨rfl, rfl⟩)
  · have hb2 : offK s ∨ findF s.l k = none := hb.resolve_left h14
    have hne := ready_ne hb2
    have hs := rename_bad (k2 := k2) (Classical.not_not.1 h14) hb2
    refine T_skip ?_
    refine inB_normal ?_
    refine thenS_normal ?_
    refine T_region ?_
    refine TL_y rfl rfl (Y_move rfl) ?_
    refine TL_y rfl rfl (Y_move rfl) ?_
    refine TL_call rfl rfl (ready_bad k hk hb2) ?_
    rintro _ _ ⟨rfl, rfl⟩
    refine TL_y rfl rfl (Y_move rfl) ?_
    refine TL_y rfl rfl (Y_extract rfl rfl) ?_
    refine TL_y rfl rfl (Y_extract rfl rfl) ?_
    refine TL_y rfl rfl (Y_assign rfl) ?_
    refine TL_y rfl rfl (Y_assign rfl) ?_
    refine TL_nil ?_
    refine T_seq ?_
    refine T_region ?_
    refine TL_y rfl rfl (Y_move rfl) ?_
    refine TL_y rfl rfl (Y_ne rfl rfl) ?_
    refine TL_name 25 (v' := .bool true) rfl (congrArg Value.bool (decide_eq_true hne)) ?_
    refine TL_nil ?_
    refine T_cond_true rfl ?_
    refine T_region ?_
    refine TL_y rfl rfl (Y_move rfl) ?_
    refine TL_y rfl rfl (Y_assign rfl) ?_
    refine TL_nil ?_
    refine T_ret ?_
    refine thenS_ret ?_
    rw [hs]
    exact RetG_1 (.inl rfl) rfl (ResV.tmp rfl) GivesTo.g (⟨rfl, rfl⟩)
theorem diskRename_ok {L : List HP} {b bt : Nat} {s : DkS} {e : FileE} (k k2 : ByteArray) (hk : k.size ≤ maxEl) (hk2 : k2.size ≤ maxEl) (hn2 : isName k2) (ho : ¬ offK s) (hf : findF s.l k = some e) : Fn Try.prog 42 #[.pointer (some ⟨b, 0, none⟩), .string k, .string k2] (dk b bt s :: L) (fun v L' => v = .int .i64 (renameK s k k2).2 ∧ L' = dk b bt (renameK s k k2).1 :: L) := by
  obtain ⟨he, hen⟩ := findF_mem hf
  have hs : renameK s k k2 = (doneK ⟨s.size, s.calls, putF (delF s.l k) ⟨k2, e.blk, e.bytes, e.synced⟩⟩, 0) := by unfold renameK; rw [if_neg (Classical.not_not.2 hn2), hf]; simp only; rw [if_neg ho]
  rw [hs]
  subst hen
  refine Fn_enter Try.func42 rfl rfl rfl rfl ?_
  refine T_region ?_
  refine TL_y rfl rfl (Y_assign rfl) ?_
  refine TL_nil ?_
  refine T_seq ?_
  refine T_block ?_
  refine T_region ?_
  refine TL_y rfl rfl (Y_move rfl) ?_
  refine TL_call rfl rfl (diskMade_spec) ?_
  rintro _ _ ⟨rfl, rfl⟩
  refine TL_name 12 (v' := .bool true) rfl (rfl) ?_
  refine TL_y rfl rfl (Y_not_t rfl) ?_
  refine TL_y rfl rfl (Y_assign rfl) ?_
  refine TL_nil ?_
  refine T_cond_false rfl ?_
  refine T_region ?_
  refine TL_y rfl rfl (Y_move rfl) ?_
  refine TL_call rfl rfl (name_spec _ k2 hk2) ?_
  rintro _ _ ⟨rfl, rfl⟩
  refine TL_name 16 (v' := .bool true) rfl (congrArg Value.bool (decide_eq_true hn2)) ?_
  refine TL_y rfl rfl (Y_not_t rfl) ?_
  refine TL_y rfl rfl (Y_assign rfl) ?_
  refine TL_nil ?_
  refine T_cond_false rfl ?_
  refine T_skip ?_
  refine inB_normal ?_
  refine thenS_normal ?_
  refine T_region ?_
  refine TL_y rfl rfl (Y_move rfl) ?_
  refine TL_y rfl rfl (Y_move rfl) ?_
  refine TL_call rfl rfl (ready_ok e.name hk ho hf) ?_
  rintro _ _ ⟨rfl, rfl⟩
  refine TL_y rfl rfl (Y_move rfl) ?_
  refine TL_y rfl rfl (Y_extract rfl rfl) ?_
  refine TL_y rfl rfl (Y_extract rfl rfl) ?_
  refine TL_y rfl rfl (Y_assign rfl) ?_
  refine TL_y rfl rfl (Y_assign rfl) ?_
  refine TL_nil ?_
  refine T_seq ?_
  refine T_region ?_
  refine TL_y rfl rfl (Y_move rfl) ?_
  refine TL_y rfl rfl (Y_ne rfl rfl) ?_
  refine TL_name 25 (v' := .bool false) rfl (congrArg Value.bool (by decide)) ?_
  refine TL_nil ?_
  refine T_cond_false rfl ?_
  refine T_skip ?_
  refine thenS_normal ?_
  refine T_seq ?_
  rcases hf2 : findF s.l k2 with _ | o
  · refine T_dk fun hi => ?_
    have hki : KI ⟨s.size, s.calls, putF (delF s.l e.name) ⟨k2, e.blk, e.bytes, e.synced⟩⟩ := by have h8 := hi.rename e.name k2; rw [hs] at h8; exact ⟨hi.size, hi.calls, h8.inc, h8.len, h8.tot, h8.ok⟩
    refine T_region ?_
    refine TL_y rfl rfl (Y_move rfl) ?_
    refine TL_y rfl rfl (Y_nil_check rfl) ?_
    refine TL_y rfl rfl (Y_field_addr rfl) ?_
    refine TL_y rfl rfl (Y_load rfl rfl) ?_
    refine TL_y rfl rfl (Y_move rfl) ?_
    refine TL_y rfl rfl (Y_lookup (k := k2) rfl rfl hk2) ?_
    refine TL_name 32 (v' := .pointer none) rfl (by rw [look_ptr]; unfold fptr; rw [hf2]; rfl) ?_
    refine TL_y rfl rfl (Y_assign rfl) ?_
    refine TL_nil ?_
    refine T_region ?_
    refine TL_y rfl rfl (Y_move rfl) ?_
    refine TL_y rfl rfl (Y_unequal rfl rfl (EqIs.ptr_nil)) ?_
    refine TL_name 34 (v' := .bool false) rfl (by simp) ?_
    refine TL_y rfl rfl (Y_move rfl) ?_
    refine TL_gskip rfl rfl rfl rfl ?_
    refine TL_gskip rfl rfl rfl rfl ?_
    refine TL_gskip rfl rfl rfl rfl ?_
    refine TL_y rfl rfl (Y_pick_f rfl rfl) ?_
    refine TL_nil ?_
    refine T_cond_false rfl ?_
    refine T_skip ?_
    refine thenS_normal ?_
    have hnn : ∀ q ∈ delF s.l e.name, q.name ≠ k2 := fun q hq => findF_none.1 hf2 q (mem_delF.1 hq).1
    refine T_region ?_
    refine TL_y rfl rfl (Y_move rfl) ?_
    refine TL_y rfl rfl (Y_nil_check rfl) ?_
    refine TL_y rfl rfl (Y_field_addr rfl) ?_
    refine TL_y rfl rfl (Y_load rfl rfl) ?_
    refine TL_y rfl rfl (Y_move rfl) ?_
    refine TL_delete0 (k := e.name) rfl rfl hk ?_
    rw [delM_fmap]
    refine TL_nil ?_
    refine T_region ?_
    refine TL_y rfl rfl (Y_move rfl) ?_
    refine TL_y rfl rfl (Y_nil_check rfl) ?_
    refine TL_y rfl rfl (Y_field_addr rfl) ?_
    refine TL_y rfl rfl (Y_load rfl rfl) ?_
    refine TL_y rfl rfl (Y_move rfl) ?_
    refine TL_y rfl rfl (Y_move rfl) ?_
    refine TL_update (R := fpR) (k := k2) (u := e.blk) (cs := [.pointer (some ⟨e.blk, 0, none⟩)]) (fmap (putF (delF s.l e.name) ⟨k2, e.blk, e.bytes, e.synced⟩)) rfl rfl rfl hk2 (Knows.const (ptr_rep e.blk)) (put_fmap (delF s.l e.name) ⟨k2, e.blk, e.bytes, e.synced⟩) ?_
    refine TL_nil ?_
    refine T_gives (ren_gives hi.inc he hnn) ?_
    refine T_gives (dk_close2 b bt ⟨s.size, s.calls, putF (delF s.l e.name) ⟨k2, e.blk, e.bytes, e.synced⟩⟩ (n := leftK s) (m := fmap (putF (delF s.l e.name) ⟨k2, e.blk, e.bytes, e.synced⟩)) (by unfold leftK; dsimp only; rw [ren_tot hi.inc he hnn]) rfl hki) ?_
    refine T_region ?_
    refine TL_y rfl rfl (Y_move rfl) ?_
    refine TL_call rfl rfl (diskDone_spec) ?_
    rintro _ _ ⟨rfl, rfl⟩
    refine TL_y rfl rfl (Y_assign rfl) ?_
    refine TL_nil ?_
    refine T_ret ?_
    exact RetG_1 (.inl rfl) rfl (ResV.tmp rfl) GivesTo.g (⟨rfl, rfl⟩)
  · refine T_dk fun hi => ?_
    have hki : KI ⟨s.size, s.calls, putF (delF s.l e.name) ⟨k2, e.blk, e.bytes, e.synced⟩⟩ := by have h8 := hi.rename e.name k2; rw [hs] at h8; exact ⟨hi.size, hi.calls, h8.inc, h8.len, h8.tot, h8.ok⟩
    refine T_region ?_
    refine TL_y rfl rfl (Y_move rfl) ?_
    refine TL_y rfl rfl (Y_nil_check rfl) ?_
    refine TL_y rfl rfl (Y_field_addr rfl) ?_
    refine TL_y rfl rfl (Y_load rfl rfl) ?_
    refine TL_y rfl rfl (Y_move rfl) ?_
    refine TL_y rfl rfl (Y_lookup (k := k2) rfl rfl hk2) ?_
    refine TL_name 32 (v' := .pointer (some ⟨o.blk, 0, none⟩)) rfl (by rw [look_ptr]; unfold fptr; rw [hf2]; rfl) ?_
    refine TL_y rfl rfl (Y_assign rfl) ?_
    refine TL_nil ?_
    refine T_region ?_
    refine TL_y rfl rfl (Y_move rfl) ?_
    refine TL_y rfl rfl (Y_unequal rfl rfl (EqIs.ptr_nil)) ?_
    refine TL_name 34 (v' := .bool true) rfl (by simp) ?_
    refine TL_y rfl rfl (Y_move rfl) ?_
    refine TL_grun rfl rfl ?_
    refine TL_y rfl rfl (Y_move rfl) ?_
    refine TL_grun rfl rfl ?_
    refine TL_y rfl rfl (Y_move rfl) ?_
    refine TL_grun rfl rfl ?_
    refine TL_y rfl rfl (Y_str_ne rfl rfl) ?_
    refine TL_y rfl rfl (Y_pick_t rfl rfl) ?_
    refine TL_nil ?_
    refine T_if rfl (fun h39 => ?_) (fun h39 => ?_)
    · obtain ⟨hom, hon⟩ := findF_mem hf2
      have hee : e ∈ delF s.l k2 := mem_delF.2 ⟨he, h39⟩
      subst hon
      refine T_gives (dk_close b bt s hi) ?_
      refine T_region_last ?_
      refine TL_y rfl rfl (Y_move rfl) ?_
      refine TL_y rfl rfl (Y_move rfl) ?_
      refine TL_y rfl rfl (Y_move rfl) ?_
      refine TL_call rfl rfl (diskDrop_spec hom hk2) ?_
      rintro _ _ ⟨rfl, A43, c43, rfl⟩
      refine TL_nil ?_
      refine thenS_normal ?_
      refine T_dk fun hi1 => ?_
      have hnn : ∀ q ∈ delF (delF s.l o.name) e.name, q.name ≠ o.name := fun q hq => (mem_delF.1 (mem_delF.1 hq).1).2
      refine T_region ?_
      refine TL_y rfl rfl (Y_move rfl) ?_
      refine TL_y rfl rfl (Y_nil_check rfl) ?_
      refine TL_y rfl rfl (Y_field_addr rfl) ?_
      refine TL_y rfl rfl (Y_load rfl rfl) ?_
      refine TL_y rfl rfl (Y_move rfl) ?_
      refine TL_delete0 (k := e.name) rfl rfl hk ?_
      rw [delM_fmap]
      refine TL_nil ?_
      refine T_region ?_
      refine TL_y rfl rfl (Y_move rfl) ?_
      refine TL_y rfl rfl (Y_nil_check rfl) ?_
      refine TL_y rfl rfl (Y_field_addr rfl) ?_
      refine TL_y rfl rfl (Y_load rfl rfl) ?_
      refine TL_y rfl rfl (Y_move rfl) ?_
      refine TL_y rfl rfl (Y_move rfl) ?_
      refine TL_update (R := fpR) (k := o.name) (u := e.blk) (cs := [.pointer (some ⟨e.blk, 0, none⟩)]) (fmap (putF (delF (delF s.l o.name) e.name) ⟨o.name, e.blk, e.bytes, e.synced⟩)) rfl rfl rfl hk2 (Knows.const (ptr_rep e.blk)) (put_fmap (delF (delF s.l o.name) e.name) ⟨o.name, e.blk, e.bytes, e.synced⟩) ?_
      refine TL_nil ?_
      have hrp := ren_put (l := s.l) (k := e.name) ⟨o.name, e.blk, e.bytes, e.synced⟩
      refine T_gives (ren_gives hi1.inc hee hnn) ?_
      dsimp only at hrp
      rw [hrp]
      refine T_gives (dk_close2 b bt ⟨s.size, s.calls, putF (delF s.l e.name) ⟨o.name, e.blk, e.bytes, e.synced⟩⟩ (n := leftK ⟨s.size, s.calls, delF s.l o.name⟩) (m := fmap (putF (delF s.l e.name) ⟨o.name, e.blk, e.bytes, e.synced⟩)) (by have := ren_tot hi1.inc hee hnn; dsimp only at this; rw [hrp] at this; unfold leftK; dsimp only; rw [this]) rfl hki) ?_
      refine T_region ?_
      refine TL_y rfl rfl (Y_move rfl) ?_
      refine TL_call rfl rfl (diskDone_spec) ?_
      rintro _ _ ⟨rfl, rfl⟩
      refine TL_y rfl rfl (Y_assign rfl) ?_
      refine TL_nil ?_
      refine T_ret ?_
      exact RetG_1 (.inl rfl) rfl (ResV.tmp rfl) GivesTo.g (⟨rfl, rfl⟩)
    · refine T_skip ?_
      refine thenS_normal ?_
      have hek : e.name = k2 := Classical.not_not.1 h39
      have hnn : ∀ q ∈ delF s.l e.name, q.name ≠ k2 := fun q hq => by rw [← hek]; exact (mem_delF.1 hq).2
      refine T_region ?_
      refine TL_y rfl rfl (Y_move rfl) ?_
      refine TL_y rfl rfl (Y_nil_check rfl) ?_
      refine TL_y rfl rfl (Y_field_addr rfl) ?_
      refine TL_y rfl rfl (Y_load rfl rfl) ?_
      refine TL_y rfl rfl (Y_move rfl) ?_
      refine TL_delete0 (k := e.name) rfl rfl hk ?_
      rw [delM_fmap]
      refine TL_nil ?_
      refine T_region ?_
      refine TL_y rfl rfl (Y_move rfl) ?_
      refine TL_y rfl rfl (Y_nil_check rfl) ?_
      refine TL_y rfl rfl (Y_field_addr rfl) ?_
      refine TL_y rfl rfl (Y_load rfl rfl) ?_
      refine TL_y rfl rfl (Y_move rfl) ?_
      refine TL_y rfl rfl (Y_move rfl) ?_
      refine TL_update (R := fpR) (k := k2) (u := e.blk) (cs := [.pointer (some ⟨e.blk, 0, none⟩)]) (fmap (putF (delF s.l e.name) ⟨k2, e.blk, e.bytes, e.synced⟩)) rfl rfl rfl hk2 (Knows.const (ptr_rep e.blk)) (put_fmap (delF s.l e.name) ⟨k2, e.blk, e.bytes, e.synced⟩) ?_
      refine TL_nil ?_
      refine T_gives (ren_gives hi.inc he hnn) ?_
      refine T_gives (dk_close2 b bt ⟨s.size, s.calls, putF (delF s.l e.name) ⟨k2, e.blk, e.bytes, e.synced⟩⟩ (n := leftK s) (m := fmap (putF (delF s.l e.name) ⟨k2, e.blk, e.bytes, e.synced⟩)) (by unfold leftK; dsimp only; rw [ren_tot hi.inc he hnn]) rfl hki) ?_
      refine T_region ?_
      refine TL_y rfl rfl (Y_move rfl) ?_
      refine TL_call rfl rfl (diskDone_spec) ?_
      rintro _ _ ⟨rfl, rfl⟩
      refine TL_y rfl rfl (Y_assign rfl) ?_
      refine TL_nil ?_
      refine T_ret ?_
      exact RetG_1 (.inl rfl) rfl (ResV.tmp rfl) GivesTo.g (⟨rfl, rfl⟩)
theorem diskRename_spec {L : List HP} {b bt : Nat} {s : DkS} (k k2 : ByteArray) (hk : k.size ≤ maxEl) (hk2 : k2.size ≤ maxEl) : Fn Try.prog 42 #[.pointer (some ⟨b, 0, none⟩), .string k, .string k2] (dk b bt s :: L) (fun v L' => v = .int .i64 (renameK s k k2).2 ∧ L' = dk b bt (renameK s k k2).1 :: L) := by
  by_cases hn : isName k2
  · rcases ready_cases s k with hb | ⟨ho, e, hf⟩
    · exact diskRename_bad k k2 hk hk2 (.inr hb)
    · exact diskRename_ok k k2 hk hk2 hn ho hf
  · exact diskRename_bad k k2 hk hk2 (.inl hn)
end Go.SL
