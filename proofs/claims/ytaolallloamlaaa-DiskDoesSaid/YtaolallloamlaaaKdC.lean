/- What the laws of this claim need, together: the logic, data in memory, the walks of functions. -/
import Derived.Test.YtaolallloamlaaaKdB
import Derived.Ground.NamesProg
import Derived.Shelf.Lay
import Derived.Shelf.Sort.Plain
import Derived.Shelf.Slices.In.SortNone
import Derived.Sort.Walk0
set_option linter.unusedVariables false
set_option linter.unusedSimpArgs false
set_option linter.unusedVariables false
set_option linter.unusedSimpArgs false
namespace Go.SL
open Go Go.Proofs
theorem delF_comm (l : List FileE) (a b : ByteArray) : delF (delF l a) b = delF (delF l b) a := by
  unfold delF; rw [List.filter_filter, List.filter_filter]; congr 1; funext e; exact Bool.and_comm _ _
theorem delF_idem (l : List FileE) (a : ByteArray) : delF (delF l a) a = delF l a := by
  unfold delF; rw [List.filter_filter]; congr 1; funext e; exact Bool.and_self _
theorem ren_put {l : List FileE} {k : ByteArray} (e : FileE) : putF (delF (delF l e.name) k) e = putF (delF l k) e := by
  unfold putF; rw [delF_comm l e.name k, delF_idem]
theorem ren_gives {l : List FileE} {e : FileE} {to_ : ByteArray} {L L0 : List HP} [hf : FindHP L (allH (l.map fH)) L0] (hi : IncF l) (he : e ∈ l) (hn : ∀ q ∈ delF l e.name, q.name ≠ to_) : Gives L (allH ((putF (delF l e.name) ⟨to_, e.blk, e.bytes, e.synced⟩).map fH) :: L0) := by
  have hd : delF (delF l e.name) to_ = delF l e.name := List.filter_eq_self.2 fun q hq => by simpa using hn q hq
  refine (fout_gives hi he).trans (Gives.trans (B := fH ⟨to_, e.blk, e.bytes, e.synced⟩ :: allH ((delF l e.name).map fH) :: L0) (Gives.refl _) ?_)
  refine allH_cons.trans (allH_perm ?_)
  have := ((putF_perm (l := delF l e.name) ⟨to_, e.blk, e.bytes, e.synced⟩).map fH).symm
  rw [hd] at this
  exact this
theorem ren_tot {l : List FileE} {e : FileE} {to_ : ByteArray} (hi : IncF l) (he : e ∈ l) (hn : ∀ q ∈ delF l e.name, q.name ≠ to_) : totF (putF (delF l e.name) ⟨to_, e.blk, e.bytes, e.synced⟩) = totF l := by
  have hd : delF (delF l e.name) to_ = delF l e.name := List.filter_eq_self.2 fun q hq => by simpa using hn q hq
  have := delF_tot hi he
  rw [putF_tot]; dsimp only; rw [hd]; omega
theorem diskRename_bad {L : List HP} {b bt : Nat} {s : DkS} (k k2 : ByteArray) (hk : k.size ≤ maxEl) (hk2 : k2.size ≤ maxEl) (hb : ¬ isName k2 ∨ offK s ∨ findF s.l k = none) : Fn Try.prog 22 #[.pointer (some ⟨b, 0, none⟩), .string k, .string k2] (dk b bt s :: L) (fun v L' => v = .int .i64 (renameK s k k2).2 ∧ L' = dk b bt (renameK s k k2).1 :: L) := by
  refine Fn_enter Try.func22 rfl rfl rfl rfl ?_
  refine T_region ?_
  refine TL_y rfl rfl (Y_assign rfl) ?_
  refine TL_nil ?_
  refine T_seq ?_
  refine T_block ?_
  refine T_region ?_
  refine TL_y rfl rfl (Y_move rfl) ?_
  refine TL_call rfl rfl (diskMade_spec) ?_
  rintro _ _ ⟨rfl, rfl⟩
  refine TL_name 12 (v' := .bool true) rfl (rfl) ?_
  refine TL_y rfl rfl (Y_not_t rfl) ?_
  refine TL_y rfl rfl (Y_assign rfl) ?_
  refine TL_nil ?_
  refine T_cond_false rfl ?_
  refine T_region ?_
  refine TL_y rfl rfl (Y_move rfl) ?_
  refine TL_call rfl rfl (name_spec _ k2 hk2) ?_
  rintro _ _ ⟨rfl, rfl⟩
  refine TL_y rfl rfl (Y_not_d rfl) ?_
  refine TL_y rfl rfl (Y_assign rfl) ?_
  refine TL_nil ?_
  refine T_if rfl (fun h14 => ?_) (fun h14 => ?_)
  · refine T_region ?_
    refine TL_y rfl rfl (Y_assign rfl) ?_
    refine TL_nil ?_
    refine T_ret ?_
    refine inB_ret ?_
    refine thenS_ret ?_
    rw [show renameK s k k2 = (s, 30) by unfold renameK; rw [if_pos h14]]
    exact RetG_1 (.inl rfl) rfl (ResV.tmp rfl) GivesTo.g (⟨rfl, rfl⟩)
  · have hb2 : offK s ∨ findF s.l k = none := hb.resolve_left h14
    have hne := ready_ne hb2
    have hs := rename_bad (k2 := k2) (Classical.not_not.1 h14) hb2
    refine T_skip ?_
    refine inB_normal ?_
    refine thenS_normal ?_
    refine T_region ?_
    refine TL_y rfl rfl (Y_move rfl) ?_
    refine TL_y rfl rfl (Y_move rfl) ?_
    refine TL_call rfl rfl (ready_bad k hk hb2) ?_
    rintro _ _ ⟨rfl, rfl⟩
    refine TL_y rfl rfl (Y_move rfl) ?_
    refine TL_y rfl rfl (Y_extract rfl rfl) ?_
    refine TL_y rfl rfl (Y_extract rfl rfl) ?_
    refine TL_y rfl rfl (Y_assign rfl) ?_
    refine TL_y rfl rfl (Y_assign rfl) ?_
    refine TL_nil ?_
    refine T_seq ?_
    refine T_region ?_
    refine TL_y rfl rfl (Y_move rfl) ?_
    refine TL_y rfl rfl (Y_ne rfl rfl) ?_
    refine TL_name 25 (v' := .bool true) rfl (congrArg Value.bool (decide_eq_true hne)) ?_
    refine TL_nil ?_
    refine T_cond_true rfl ?_
    refine T_region ?_
    refine TL_y rfl rfl (Y_move rfl) ?_
    refine TL_y rfl rfl (Y_assign rfl) ?_
    refine TL_nil ?_
    refine T_ret ?_
    refine thenS_ret ?_
    rw [hs]
    exact RetG_1 (.inl rfl) rfl (ResV.tmp rfl) GivesTo.g (⟨rfl, rfl⟩)
theorem diskRename_ok {L : List HP} {b bt : Nat} {s : DkS} {e : FileE} (k k2 : ByteArray) (hk : k.size ≤ maxEl) (hk2 : k2.size ≤ maxEl) (hn2 : isName k2) (ho : ¬ offK s) (hf : findF s.l k = some e) : Fn Try.prog 22 #[.pointer (some ⟨b, 0, none⟩), .string k, .string k2] (dk b bt s :: L) (fun v L' => v = .int .i64 (renameK s k k2).2 ∧ L' = dk b bt (renameK s k k2).1 :: L) := by
  obtain ⟨he, hen⟩ := findF_mem hf
  have hs : renameK s k k2 = (doneK ⟨s.size, s.calls, putF (delF s.l k) ⟨k2, e.blk, e.bytes, e.synced⟩⟩, 0) := by unfold renameK; rw [if_neg (Classical.not_not.2 hn2), hf]; simp only; rw [if_neg ho]
  rw [hs]
  subst hen
  refine Fn_enter Try.func22 rfl rfl rfl rfl ?_
  refine T_region ?_
  refine TL_y rfl rfl (Y_assign rfl) ?_
  refine TL_nil ?_
  refine T_seq ?_
  refine T_block ?_
  refine T_region ?_
  refine TL_y rfl rfl (Y_move rfl) ?_
  refine TL_call rfl rfl (diskMade_spec) ?_
  rintro _ _ ⟨rfl, rfl⟩
  refine TL_name 12 (v' := .bool true) rfl (rfl) ?_
  refine TL_y rfl rfl (Y_not_t rfl) ?_
  refine TL_y rfl rfl (Y_assign rfl) ?_
  refine TL_nil ?_
  refine T_cond_false rfl ?_
  refine T_region ?_
  refine TL_y rfl rfl (Y_move rfl) ?_
  refine TL_call rfl rfl (name_spec _ k2 hk2) ?_
  rintro _ _ ⟨rfl, rfl⟩
  refine TL_name 16 (v' := .bool true) rfl (congrArg Value.bool (decide_eq_true hn2)) ?_
  refine TL_y rfl rfl (Y_not_t rfl) ?_
  refine TL_y rfl rfl (Y_assign rfl) ?_
  refine TL_nil ?_
  refine T_cond_false rfl ?_
  refine T_skip ?_
  refine inB_normal ?_
  refine thenS_normal ?_
  refine T_region ?_
  refine TL_y rfl rfl (Y_move rfl) ?_
  refine TL_y rfl rfl (Y_move rfl) ?_
  refine TL_call rfl rfl (ready_ok e.name hk ho hf) ?_
  rintro _ _ ⟨rfl, rfl⟩
  refine TL_y rfl rfl (Y_move rfl) ?_
  refine TL_y rfl rfl (Y_extract rfl rfl) ?_
  refine TL_y rfl rfl (Y_extract rfl rfl) ?_
  refine TL_y rfl rfl (Y_assign rfl) ?_
  refine TL_y rfl rfl (Y_assign rfl) ?_
  refine TL_nil ?_
  refine T_seq ?_
  refine T_region ?_
  refine TL_y rfl rfl (Y_move rfl) ?_
  refine TL_y rfl rfl (Y_ne rfl rfl) ?_
  refine TL_name 25 (v' := .bool false) rfl (congrArg Value.bool (by decide)) ?_
  refine TL_nil ?_
  refine T_cond_false rfl ?_
  refine T_skip ?_
  refine thenS_normal ?_
  refine T_seq ?_
  rcases hf2 : findF s.l k2 with _ | o
  · refine T_dk fun hi => ?_
    have hki : KI ⟨s.size, s.calls, putF (delF s.l e.name) ⟨k2, e.blk, e.bytes, e.synced⟩⟩ := by have h8 := hi.rename e.name k2; rw [hs] at h8; exact ⟨hi.size, hi.calls, h8.inc, h8.len, h8.tot, h8.ok⟩
    refine T_region ?_
    refine TL_y rfl rfl (Y_move rfl) ?_
    refine TL_y rfl rfl (Y_nil_check rfl) ?_
    refine TL_y rfl rfl (Y_field_addr rfl) ?_
    refine TL_y rfl rfl (Y_load rfl rfl) ?_
    refine TL_y rfl rfl (Y_move rfl) ?_
    refine TL_y rfl rfl (Y_lookup (k := k2) rfl rfl hk2) ?_
    refine TL_name 32 (v' := .pointer none) rfl (by rw [look_ptr]; unfold fptr; rw [hf2]; rfl) ?_
    refine TL_y rfl rfl (Y_assign rfl) ?_
    refine TL_nil ?_
    refine T_region ?_
    refine TL_y rfl rfl (Y_move rfl) ?_
    refine TL_y rfl rfl (Y_unequal rfl rfl (EqIs.ptr_nil)) ?_
    refine TL_name 34 (v' := .bool false) rfl (by simp) ?_
    refine TL_y rfl rfl (Y_move rfl) ?_
    refine TL_gskip rfl rfl rfl rfl ?_
    refine TL_gskip rfl rfl rfl rfl ?_
    refine TL_gskip rfl rfl rfl rfl ?_
    refine TL_y rfl rfl (Y_pick_f rfl rfl) ?_
    refine TL_nil ?_
    refine T_cond_false rfl ?_
    refine T_skip ?_
    refine thenS_normal ?_
    have hnn : ∀ q ∈ delF s.l e.name, q.name ≠ k2 := fun q hq => findF_none.1 hf2 q (mem_delF.1 hq).1
    refine T_region ?_
    refine TL_y rfl rfl (Y_move rfl) ?_
    refine TL_y rfl rfl (Y_nil_check rfl) ?_
    refine TL_y rfl rfl (Y_field_addr rfl) ?_
    refine TL_y rfl rfl (Y_load rfl rfl) ?_
    refine TL_y rfl rfl (Y_move rfl) ?_
    refine TL_delete0 (k := e.name) rfl rfl hk ?_
    rw [delM_fmap]
    refine TL_nil ?_
    refine T_region ?_
    refine TL_y rfl rfl (Y_move rfl) ?_
    refine TL_y rfl rfl (Y_nil_check rfl) ?_
    refine TL_y rfl rfl (Y_field_addr rfl) ?_
    refine TL_y rfl rfl (Y_load rfl rfl) ?_
    refine TL_y rfl rfl (Y_move rfl) ?_
    refine TL_y rfl rfl (Y_move rfl) ?_
    refine TL_update (R := fpR) (k := k2) (u := e.blk) (cs := [.pointer (some ⟨e.blk, 0, none⟩)]) (fmap (putF (delF s.l e.name) ⟨k2, e.blk, e.bytes, e.synced⟩)) rfl rfl rfl hk2 (Knows.const (ptr_rep e.blk)) (put_fmap (delF s.l e.name) ⟨k2, e.blk, e.bytes, e.synced⟩) ?_
    refine TL_nil ?_
    refine T_gives (ren_gives hi.inc he hnn) ?_
    refine T_gives (dk_close2 b bt ⟨s.size, s.calls, putF (delF s.l e.name) ⟨k2, e.blk, e.bytes, e.synced⟩⟩ (n := leftK s) (m := fmap (putF (delF s.l e.name) ⟨k2, e.blk, e.bytes, e.synced⟩)) (by unfold leftK; dsimp only; rw [ren_tot hi.inc he hnn]) rfl hki) ?_
    refine T_region ?_
    refine TL_y rfl rfl (Y_move rfl) ?_
    refine TL_call rfl rfl (diskDone_spec) ?_
    rintro _ _ ⟨rfl, rfl⟩
    refine TL_y rfl rfl (Y_assign rfl) ?_
    refine TL_nil ?_
    refine T_ret ?_
    exact RetG_1 (.inl rfl) rfl (ResV.tmp rfl) GivesTo.g (⟨rfl, rfl⟩)
  · refine T_dk fun hi => ?_
    have hki : KI ⟨s.size, s.calls, putF (delF s.l e.name) ⟨k2, e.blk, e.bytes, e.synced⟩⟩ := by have h8 := hi.rename e.name k2; rw [hs] at h8; exact ⟨hi.size, hi.calls, h8.inc, h8.len, h8.tot, h8.ok⟩
    refine T_region ?_
    refine TL_y rfl rfl (Y_move rfl) ?_
    refine TL_y rfl rfl (Y_nil_check rfl) ?_
    refine TL_y rfl rfl (Y_field_addr rfl) ?_
    refine TL_y rfl rfl (Y_load rfl rfl) ?_
    refine TL_y rfl rfl (Y_move rfl) ?_
    refine TL_y rfl rfl (Y_lookup (k := k2) rfl rfl hk2) ?_
    refine TL_name 32 (v' := .pointer (some ⟨o.blk, 0, none⟩)) rfl (by rw [look_ptr]; unfold fptr; rw [hf2]; rfl) ?_
    refine TL_y rfl rfl (Y_assign rfl) ?_
    refine TL_nil ?_
    refine T_region ?_
    refine TL_y rfl rfl (Y_move rfl) ?_
    refine TL_y rfl rfl (Y_unequal rfl rfl (EqIs.ptr_nil)) ?_
    refine TL_name 34 (v' := .bool true) rfl (by simp) ?_
    refine TL_y rfl rfl (Y_move rfl) ?_
    refine TL_grun rfl rfl ?_
    refine TL_y rfl rfl (Y_move rfl) ?_
    refine TL_grun rfl rfl ?_
    refine TL_y rfl rfl (Y_move rfl) ?_
    refine TL_grun rfl rfl ?_
    refine TL_y rfl rfl (Y_str_ne rfl rfl) ?_
    refine TL_y rfl rfl (Y_pick_t rfl rfl) ?_
    refine TL_nil ?_
    refine T_if rfl (fun h39 => ?_) (fun h39 => ?_)
    · obtain ⟨hom, hon⟩ := findF_mem hf2
      have hee : e ∈ delF s.l k2 := mem_delF.2 ⟨he, h39⟩
      subst hon
      refine T_gives (dk_close b bt s hi) ?_
      refine T_region_last ?_
      refine TL_y rfl rfl (Y_move rfl) ?_
      refine TL_y rfl rfl (Y_move rfl) ?_
      refine TL_y rfl rfl (Y_move rfl) ?_
      refine TL_call rfl rfl (diskDrop_spec hom hk2) ?_
      rintro _ _ ⟨rfl, A43, c43, rfl⟩
      refine TL_nil ?_
      refine thenS_normal ?_
      refine T_dk fun hi1 => ?_
      have hnn : ∀ q ∈ delF (delF s.l o.name) e.name, q.name ≠ o.name := fun q hq => (mem_delF.1 (mem_delF.1 hq).1).2
      refine T_region ?_
      refine TL_y rfl rfl (Y_move rfl) ?_
      refine TL_y rfl rfl (Y_nil_check rfl) ?_
      refine TL_y rfl rfl (Y_field_addr rfl) ?_
      refine TL_y rfl rfl (Y_load rfl rfl) ?_
      refine TL_y rfl rfl (Y_move rfl) ?_
      refine TL_delete0 (k := e.name) rfl rfl hk ?_
      rw [delM_fmap]
      refine TL_nil ?_
      refine T_region ?_
      refine TL_y rfl rfl (Y_move rfl) ?_
      refine TL_y rfl rfl (Y_nil_check rfl) ?_
      refine TL_y rfl rfl (Y_field_addr rfl) ?_
      refine TL_y rfl rfl (Y_load rfl rfl) ?_
      refine TL_y rfl rfl (Y_move rfl) ?_
      refine TL_y rfl rfl (Y_move rfl) ?_
      refine TL_update (R := fpR) (k := o.name) (u := e.blk) (cs := [.pointer (some ⟨e.blk, 0, none⟩)]) (fmap (putF (delF (delF s.l o.name) e.name) ⟨o.name, e.blk, e.bytes, e.synced⟩)) rfl rfl rfl hk2 (Knows.const (ptr_rep e.blk)) (put_fmap (delF (delF s.l o.name) e.name) ⟨o.name, e.blk, e.bytes, e.synced⟩) ?_
      refine TL_nil ?_
      have hrp := ren_put (l := s.l) (k := e.name) ⟨o.name, e.blk, e.bytes, e.synced⟩
      refine T_gives (ren_gives hi1.inc hee hnn) ?_
      dsimp only at hrp
      rw [hrp]
      refine T_gives (dk_close2 b bt ⟨s.size, s.calls, putF (delF s.l e.name) ⟨o.name, e.blk, e.bytes, e.synced⟩⟩ (n := leftK ⟨s.size, s.calls, delF s.l o.name⟩) (m := fmap (putF (delF s.l e.name) ⟨o.name, e.blk, e.bytes, e.synced⟩)) (by have := ren_tot hi1.inc hee hnn; dsimp only at this; rw [hrp] at this; unfold leftK; dsimp only; rw [this]) rfl hki) ?_
      refine T_region ?_
      refine TL_y rfl rfl (Y_move rfl) ?_
      refine TL_call rfl rfl (diskDone_spec) ?_
      rintro _ _ ⟨rfl, rfl⟩
      refine TL_y rfl rfl (Y_assign rfl) ?_
      refine TL_nil ?_
      refine T_ret ?_
      exact RetG_1 (.inl rfl) rfl (ResV.tmp rfl) GivesTo.g (⟨rfl, rfl⟩)
    · refine T_skip ?_
      refine thenS_normal ?_
      have hek : e.name = k2 := Classical.not_not.1 h39
      have hnn : ∀ q ∈ delF s.l e.name, q.name ≠ k2 := fun q hq => by rw [← hek]; exact (mem_delF.1 hq).2
      refine T_region ?_
      refine TL_y rfl rfl (Y_move rfl) ?_
      refine TL_y rfl rfl (Y_nil_check rfl) ?_
      refine TL_y rfl rfl (Y_field_addr rfl) ?_
      refine TL_y rfl rfl (Y_load rfl rfl) ?_
      refine TL_y rfl rfl (Y_move rfl) ?_
      refine TL_delete0 (k := e.name) rfl rfl hk ?_
      rw [delM_fmap]
      refine TL_nil ?_
      refine T_region ?_
      refine TL_y rfl rfl (Y_move rfl) ?_
      refine TL_y rfl rfl (Y_nil_check rfl) ?_
      refine TL_y rfl rfl (Y_field_addr rfl) ?_
      refine TL_y rfl rfl (Y_load rfl rfl) ?_
      refine TL_y rfl rfl (Y_move rfl) ?_
      refine TL_y rfl rfl (Y_move rfl) ?_
      refine TL_update (R := fpR) (k := k2) (u := e.blk) (cs := [.pointer (some ⟨e.blk, 0, none⟩)]) (fmap (putF (delF s.l e.name) ⟨k2, e.blk, e.bytes, e.synced⟩)) rfl rfl rfl hk2 (Knows.const (ptr_rep e.blk)) (put_fmap (delF s.l e.name) ⟨k2, e.blk, e.bytes, e.synced⟩) ?_
      refine TL_nil ?_
      refine T_gives (ren_gives hi.inc he hnn) ?_
      refine T_gives (dk_close2 b bt ⟨s.size, s.calls, putF (delF s.l e.name) ⟨k2, e.blk, e.bytes, e.synced⟩⟩ (n := leftK s) (m := fmap (putF (delF s.l e.name) ⟨k2, e.blk, e.bytes, e.synced⟩)) (by unfold leftK; dsimp only; rw [ren_tot hi.inc he hnn]) rfl hki) ?_
      refine T_region ?_
      refine TL_y rfl rfl (Y_move rfl) ?_
      refine TL_call rfl rfl (diskDone_spec) ?_
      rintro _ _ ⟨rfl, rfl⟩
      refine TL_y rfl rfl (Y_assign rfl) ?_
      refine TL_nil ?_
      refine T_ret ?_
      exact RetG_1 (.inl rfl) rfl (ResV.tmp rfl) GivesTo.g (⟨rfl, rfl⟩)
theorem diskRename_spec {L : List HP} {b bt : Nat} {s : DkS} (k k2 : ByteArray) (hk : k.size ≤ maxEl) (hk2 : k2.size ≤ maxEl) : Fn Try.prog 22 #[.pointer (some ⟨b, 0, none⟩), .string k, .string k2] (dk b bt s :: L) (fun v L' => v = .int .i64 (renameK s k k2).2 ∧ L' = dk b bt (renameK s k k2).1 :: L) := by
  by_cases hn : isName k2
  · rcases ready_cases s k with hb | ⟨ho, e, hf⟩
    · exact diskRename_bad k k2 hk hk2 (.inr hb)
    · exact diskRename_ok k k2 hk hk2 hn ho hf
  · exact diskRename_bad k k2 hk hk2 (.inl hn)
end Go.SL
set_option linter.unusedVariables false
set_option linter.unusedSimpArgs false
namespace Go.SL
open Go Go.Proofs
theorem endr {κ α : Type} [DecidableEq κ] {K : KeyT κ} {R : Rep α} {ag : Bool} {b : Nat} {m done : List (κ × α)} {L L0 : List HP} (it : Nat) [hf : FindG L it b κ α K R ag m done L0] : Gives L (omap K R ag b m :: L0) := hf.g.trans mrange_end
structure GaSt where
  xs : List Int
  A : Option Addr
  c : Nat
def gaStep : LS GaSt → Int → LS GaSt → Prop := fun s x s' => s'.2 = none ∧ s'.1.xs = s.1.xs ++ [x]
/-! ### A map's keys -/
end Go.SL
set_option linter.unusedVariables false
set_option linter.unusedSimpArgs false
namespace Go.Proofs
open Go.Shelf
end Go.Proofs
namespace Go.SL
open Go Go.Proofs
def srt (xs : List Int) : List Int := xs.mergeSort fun x y => decide (x ≤ y)
theorem Sat.ahead {o w : World} {L : List HP} (h : Sat o w L) (n : Nat) : Sat o (Go.Sort.ahead w n) L := ⟨h.ex, h.os, h.tape, h.output, h.size⟩
theorem Sat.grow {o w : World} {L : List HP} (h : Sat o w L) (xs : Array Obj) : Sat o (Go.Sort.grow w xs) L := by
  obtain ⟨M, k, hd, hM, hk, hs⟩ := h.ex
  have hle : (heapOf w).le (heapOf (Go.Sort.grow w xs)) := fun b x hb => by
    have hlt := (Array.getElem?_eq_some_iff.1 (show w.heap[b]? = some x from hb)).1
    show (Go.Sort.grow w xs).heap[b]? = some x
    rw [Go.Sort.heap_grow_old w xs hlt]; exact hb
  exact ⟨⟨M, k, hd, Mem.le_trans hM hle, Mem.le_trans hk hle, hs⟩, h.os, h.tape, h.output, Nat.le_trans h.size (by simp [Go.Sort.grow])⟩
end Go.SL
set_option linter.unusedVariables false
set_option linter.unusedSimpArgs false
namespace Go.SL
open Go Go.Proofs
end Go.SL
set_option linter.unusedVariables false
set_option linter.unusedSimpArgs false
namespace Go.Proofs
open Go.Shelf
shelf_lay Lays.n190 Nm 190 at Try as Try.lays190
end Go.Proofs
namespace Go.SL
open Go Go.Proofs
def dataL (s : ByteArray) : List UInt8 := s.data.toList
def undata (l : List UInt8) : ByteArray := ⟨l.toArray⟩
theorem undata_data (s : ByteArray) : undata (dataL s) = s := by cases s; simp [undata, dataL]
def srtL (ss : List (List UInt8)) : List (List UInt8) := ss.mergeSort fun x y => decide (x ≤ y)
def srtS (xs : List ByteArray) : List ByteArray := (srtL (xs.map dataL)).map undata
theorem srtS_perm (xs : List ByteArray) : (srtS xs).Perm xs := by
  have := (List.mergeSort_perm (xs.map dataL) fun x y => decide (x ≤ y)).map undata
  rw [List.map_map, show undata ∘ dataL = id from funext undata_data, List.map_id] at this
  exact this
theorem srtS_length (xs : List ByteArray) : (srtS xs).length = xs.length := (srtS_perm xs).length_eq
theorem srtS_of {xs ys : List ByteArray} (h : xs.Perm ys) (hy : ys.Pairwise fun x y => dataL x < dataL y) : srtS xs = ys := by
  have h1 : (srtL (xs.map dataL)).Perm (ys.map dataL) := (List.mergeSort_perm _ _).trans (h.map _)
  have h2 : (srtL (xs.map dataL)).Pairwise (fun x y => x ≤ y) := by
    have := List.pairwise_mergeSort (le := fun x y : List UInt8 => decide (x ≤ y)) (fun a b c h1 h2 => by simp at h1 h2 ⊢; exact List.le_trans h1 h2) (fun a b => by simp; exact List.le_total a b) (xs.map dataL)
    exact this.imp fun h => by simpa using h
  have h3 : srtL (xs.map dataL) = ys.map dataL := h1.eq_of_pairwise (fun a b _ _ h1 h2 => List.le_antisymm h1 h2) h2 (List.pairwise_map.2 (hy.imp fun h => List.le_of_lt h))
  unfold srtS
  rw [h3, List.map_map, show undata ∘ dataL = id from funext undata_data, List.map_id]
theorem sortS_spec {L : List HP} {A : Option Addr} {c : Nat} {xs : List ByteArray} (hb : xs.length < 4611686018427387904) : Fn Try.prog 48 #[.slice A xs.length c] (osl strR 9 A c xs :: L) (fun v L' => v = .tuple #[] ∧ L' = osl strR 9 A c (srtS xs) :: L) := fun o w hs => by
  obtain ⟨M, k, hd, hM, hk, h1, h2, hd', l1, l2, hp, hsep⟩ := hs.ex
  rcases hp.2 with ⟨rfl, rfl⟩ | ⟨g, cur, rfl, hg, hsz, hl, hc, hx⟩
  · refine (Any.slices_Sort_string_none Try.lays190 A 0 w).mono ?_
    rintro e w' ⟨rfl, rfl⟩
    exact ⟨_, _, rfl, ⟨rfl, rfl⟩, by rw [show srtS [] = [] by simp [srtS, srtL]]; exact hs⟩
  · have hbw : w.heap[g]? = some (.cells cur 9 (0, 0)) := hk _ _ (l1 _ _ hg)
    have hlt : g < w.heap.size := (Array.getElem?_eq_some_iff.1 hbw).1
    have hcur : ∀ i x, xs[i]? = some x → cur[i]? = some (Value.string x) ∧ x.size ≤ maxEl := fun i x hi => by
      obtain ⟨l, ⟨rfl, hk2⟩, h⟩ := hx i x hi
      have := h 0 _ rfl
      exact ⟨by simpa [strR] using this, hk2⟩
    have hin : ∀ x ∈ xs, x.size ≤ maxEl := fun x hx => by
      obtain ⟨i, hi⟩ := List.getElem?_of_mem hx
      exact (hcur i x hi).2
    have henc : ∀ x : ByteArray, Go.Proofs.encStr (dataL x) = Value.string x := fun x => by cases x; simp [Go.Proofs.encStr, dataL]
    have hH : Go.Sort.Holds Go.Proofs.encStr w g 0 (xs.map dataL).toArray := fun j hj => by
      have hj' : j < xs.length := by simpa using hj
      refine ⟨?_, by simp [World.frozen?, hbw]⟩
      rw [Nat.zero_add, cell_of hbw, (hcur j _ (List.getElem?_eq_getElem hj')).1]
      simp [hj', henc]
    have hone : Sat o w (own g (.cells cur 9 (0, 0)) :: L) := ⟨⟨M, k, hd, hM, hk, h1, h2, hd', l1, l2, hg, hsep⟩, hs.os, hs.tape, hs.output, hs.size⟩
    have hkit := Any.slices_Sort_string Try.lays190 g 0 c (xs.map dataL) w hH hlt (by simpa using hb)
    rw [List.length_map] at hkit
    refine hkit.mono ?_
    rintro e w' ⟨rfl, n, os, rfl⟩
    have hput : Sat o (Go.Sort.putRow Go.Proofs.encStr (Go.Sort.ahead w n) g 0 (srtL (xs.map dataL)).toArray) (own g (.cells (Go.Sort.putCells Go.Proofs.encStr 0 (srtL (xs.map dataL)).toArray cur) 9 (0, 0)) :: L) := by
      refine (hone.ahead n).set ?_ ?_ rfl rfl rfl ?_
      · show ((Go.Sort.ahead w n).heap.modify g (Go.Sort.onCells _))[g]? = _
        rw [Array.getElem?_modify, if_pos rfl, show (Go.Sort.ahead w n).heap[g]? = w.heap[g]? from rfl, hbw]; rfl
      · intro i hi
        show ((Go.Sort.ahead w n).heap.modify g (Go.Sort.onCells _))[i]? = _
        rw [Array.getElem?_modify, if_neg (Ne.symm hi)]
      · show _ ≤ ((Go.Sort.ahead w n).heap.modify g (Go.Sort.onCells _)).size
        simp
    refine ⟨_, _, rfl, ⟨rfl, rfl⟩, (hput.grow os).gives fun N m ⟨a1, a2, ad, m1, m2, ha, hs'⟩ => ⟨a1, a2, ad, m1, m2, ⟨by rw [srtS_length]; exact hp.1, .inr ⟨g, _, rfl, ha, ?_, by rw [srtS_length]; exact hl, hc, fun i x hi => ?_⟩⟩, hs'⟩⟩
    · simp [Go.Sort.putCells, hsz]
    · have hm := List.mem_of_getElem? hi
      have hil : i < (srtS xs).length := (List.getElem?_eq_some_iff.1 hi).1
      refine ⟨[.string x], ⟨rfl, hin x ((srtS_perm xs).mem_iff.1 hm)⟩, fun j v hj => ?_⟩
      have hj0 : j = 0 := by
        have := (List.getElem?_eq_some_iff.1 hj).1
        simp at this; exact this
      subst hj0
      simp at hj
      subst hj
      have hic : i < cur.size := by rw [hsz]; rw [srtS_length] at hil; simp [strR]; omega
      have hil2 : i < (srtL (xs.map dataL)).length := by unfold srtS at hil; rwa [List.length_map] at hil
      have hx2 : undata (srtL (xs.map dataL))[i] = x := by
        have := hi; unfold srtS at this; rw [List.getElem?_map, List.getElem?_eq_getElem hil2] at this; exact Option.some.inj this
      have he2 : Go.Proofs.encStr (srtL (xs.map dataL))[i] = Value.string x := by rw [← hx2]; simp [Go.Proofs.encStr, undata]
      simp [Go.Sort.putCells, strR, Array.getElem?_mapIdx, hil2, he2, Array.getElem?_eq_getElem hic]
end Go.SL
set_option linter.unusedVariables false
set_option linter.unusedSimpArgs false
namespace Go.SL
open Go Go.Proofs
structure GaStS where
  xs : List ByteArray
  A : Option Addr
  c : Nat
def gaStepS : LS GaStS → ByteArray → LS GaStS → Prop := fun s x s' => s'.2 = none ∧ s'.1.xs = s.1.xs ++ [x]
theorem gaS_runs {s s' : LS GaStS} {xs : List ByteArray} (h0 : s.2 = none) (h : Runs gaStepS (fun s => !s.2.isNone) s xs s') : s'.2 = none ∧ s'.1.xs = s.1.xs ++ xs := by
  induction h with
  | nil s => exact ⟨h0, by simp⟩
  | halt a b => rw [a.1] at b; simp at b
  | go a b c ih => have := ih a.1; rw [a.2] at this; simpa using this
theorem appendSeqS_spec {c : Value} {N : Nat} {Lf Lr : List HP} {seqs : Bool → List ByteArray → Prop} (hi : IterC Try.prog c (fun k : ByteArray => [.string k]) (fun k => k.size ≤ maxEl) N Lf seqs) (hN : N ≤ 2199023255552) : Fn Try.prog 50 #[.slice none 0 0, c] (Lf ++ Lr) (fun v L' => ∃ A' c' xs, v = .slice A' xs.length c' ∧ seqs false xs ∧ L' = osl strR 9 A' c' xs :: (Lf ++ Lr)) := by
  refine Fn_enterM Try.func50 rfl rfl rfl rfl ?_
  refine T_region ?_
  refine TL_box rfl rfl rfl ?_
  intro b2
  refine TL_y rfl rfl (Y_assign rfl) ?_
  refine TL_nil ?_
  refine T_seq ?_
  refine T_region ?_
  refine TL_y rfl rfl (Y_move rfl) ?_
  refine TL_nil ?_
  refine T_block ?_
  refine T_range_iter (fun g : GaStS => [cells b2 [.slice g.A g.xs.length g.c] 60, osl strR 9 g.A g.c g.xs]) (gaStepS) (fun g : GaStS => g.xs.length) (⟨[], none, 0⟩) rfl (hi) ((osl_nil strR 9 none _).trans (Gives.swap _ _ _)) (by decide) (fun _ => rfl) rfl (fun s x s' h => by rw [h.2]; simp) (fun l900 b900 g x Lx hx hlt => ?_) (fun m900 xs g hseq hrun => ?_)
  · obtain ⟨xs, A, c⟩ := g
    dsimp only at hlt
    try simp only [List.cons_append, List.nil_append]
    refine T_region_last ?_
    refine TL_y rfl rfl (Y_assign rfl) ?_
    refine TL_nil ?_
    refine ⟨rfl, _, FindHP.g, ?_⟩
    refine T_block ?_
    refine T_region_last ?_
    refine TL_y rfl rfl (Y_load rfl rfl) ?_
    refine TL_y rfl rfl (Y_move rfl) ?_
    refine TL_build_slice rfl rfl rfl rfl rfl rfl ?_
    intro b10
    refine TL_osl (k := 1) strR [x] (Knows.const fun M => ⟨[.string x], [], ⟨rfl, hx⟩, rfl, rfl⟩) rfl (by decide) ?_
    refine TL_freeze_osl ?_
    refine TL_name 10 (v' := .slice (some ⟨b10, 0, none⟩) [x].length 1) rfl rfl ?_
    refine TL_append rfl rfl rfl rfl rfl slk (by simp only [List.length_cons, List.length_nil]; omega) ?_
    intro A11 c11
    refine TL_store rfl rfl rfl rfl rfl rfl ?_
    refine TL_nil ?_
    refine inB_normal ?_
    exact ⟨⟨xs ++ [x], A11, c11⟩, none, rfl, ⟨rfl, rfl⟩, GivesTo.g⟩
  · obtain ⟨⟨ys, A, c⟩, j⟩ := g
    obtain ⟨rfl, h2⟩ := gaS_runs rfl hrun
    dsimp only at h2
    rw [List.nil_append] at h2
    subst h2
    try simp only [List.cons_append, List.nil_append]
    refine behind_none ?_
    refine inB_normal ?_
    refine thenS_normal ?_
    refine T_region ?_
    refine TL_y rfl rfl (Y_load rfl rfl) ?_
    refine TL_y rfl rfl (Y_assign rfl) ?_
    refine TL_nil ?_
    refine T_ret ?_
    refine retM1 ?_
    exact RetG_1 (.inl rfl) rfl (ResV.tmp rfl) GivesTo.g (⟨A, c, ys, rfl, hseq, rfl⟩)
theorem collectS_spec {c : Value} {N : Nat} {Lf Lr : List HP} {seqs : Bool → List ByteArray → Prop} (hi : IterC Try.prog c (fun k : ByteArray => [.string k]) (fun k => k.size ≤ maxEl) N Lf seqs) (hN : N ≤ 2199023255552) : Fn Try.prog 47 #[c] (Lf ++ Lr) (fun v L' => ∃ A' c' xs, v = .slice A' xs.length c' ∧ seqs false xs ∧ L' = osl strR 9 A' c' xs :: (Lf ++ Lr)) := by
  refine Fn_enter Try.func47 rfl rfl rfl rfl ?_
  refine T_region ?_
  refine TL_y rfl rfl (Y_assign rfl) ?_
  refine TL_nil ?_
  refine T_region ?_
  refine TL_y rfl rfl (Y_move rfl) ?_
  refine TL_call rfl rfl (appendSeqS_spec hi hN) ?_
  rintro _ _ ⟨A4, c4, xs, rfl, hs, rfl⟩
  refine TL_y rfl rfl (Y_assign rfl) ?_
  refine TL_nil ?_
  refine T_ret ?_
  exact RetG_1 (.inl rfl) rfl (ResV.tmp rfl) GivesTo.g (⟨A4, c4, xs, rfl, hs, rfl⟩)
theorem sortedS_spec {c : Value} {N : Nat} {Lf Lr : List HP} {seqs : Bool → List ByteArray → Prop} (hi : IterC Try.prog c (fun k : ByteArray => [.string k]) (fun k => k.size ≤ maxEl) N Lf seqs) (hN : N ≤ 2199023255552) : Fn Try.prog 30 #[c] (Lf ++ Lr) (fun v L' => ∃ A' c' xs, v = .slice A' (srtS xs).length c' ∧ seqs false xs ∧ L' = osl strR 9 A' c' (srtS xs) :: (Lf ++ Lr)) := by
  refine Fn_enter Try.func30 rfl rfl rfl rfl ?_
  refine T_region ?_
  refine TL_y rfl rfl (Y_assign rfl) ?_
  refine TL_nil ?_
  refine T_region ?_
  refine TL_y rfl rfl (Y_move rfl) ?_
  refine TL_call rfl rfl (collectS_spec hi hN) ?_
  rintro _ _ ⟨A5, c5, xs, rfl, hs, rfl⟩
  refine TL_fact osl_len (fun _ h => h) fun hl5 => ?_
  simp only [maxEl] at hl5
  refine TL_y rfl rfl (Y_assign rfl) ?_
  refine TL_nil ?_
  refine T_region ?_
  refine TL_y rfl rfl (Y_move rfl) ?_
  refine TL_call rfl rfl (sortS_spec (by omega)) ?_
  rintro _ _ ⟨rfl, rfl⟩
  refine TL_nil ?_
  refine T_region ?_
  refine TL_y rfl rfl (Y_move rfl) ?_
  refine TL_y rfl rfl (Y_assign rfl) ?_
  refine TL_nil ?_
  refine T_ret ?_
  rw [← srtS_length xs]
  exact RetG_1 (.inl rfl) rfl (ResV.tmp rfl) GivesTo.g (⟨A5, c5, xs, rfl, hs, rfl⟩)
theorem keysF1_spec {β : Type} {R : Rep β} {ag : Bool} {b bx : Nat} {m : List (ByteArray × β)} {τ : Type} {l : Nat} {C : τ → HP} {step : τ → ByteArray → τ → Prop} {stop : τ → Bool} {cnt : τ → Nat} {s0 : τ} {Lx : List HP} (h0 : stop s0 = false) (hc0 : cnt s0 = 0) (hcnt : ∀ s x s', step s x s' → cnt s' = cnt s + 1) (hy : YieldsC Try.prog l C (fun k : ByteArray => [.string k]) (fun k => k.size ≤ maxEl) step stop cnt m.length) :
    Fn Try.prog 49 #[.func (.yield l) #[] #[], .pointer (some ⟨bx, 0, none⟩)] (con l (C s0) :: cells bx [.map (some b)] 49 :: omap strK R ag b m :: Lx)
      (fun v L' => ∃ xs s', (stop s' = false → xs.Perm (m.map (·.1))) ∧ Runs step stop s0 xs s' ∧ L' = con l (C s') :: cells bx [.map (some b)] 49 :: omap strK R ag b m :: Lx) := by
  refine Fn_enter Try.func49 rfl rfl rfl rfl ?_
  refine T_region ?_
  refine TL_y rfl rfl (Y_load rfl rfl) ?_
  refine TL_range rfl rfl ?_
  intro it
  refine TL_nil ?_
  refine T_block ?_
  refine T_loopK (σ := List (ByteArray × β) × τ) [0, 5] (fun g => Runs step stop s0 (g.1.map (·.1)) g.2 ∧ stop g.2 = false ∧ cnt g.2 = g.1.length) (fun g kv => kv) (fun g => con l (C g.2) :: mrange strK R ag b it m g.1 :: cells bx [.map (some b)] 49 :: Lx) (fun g => m.length - g.1.length) (([], s0)) rfl (⟨.nil _, h0, hc0⟩) (GivesTo.g) (sub_cons rfl (sub_cons rfl (sub_nil))) ?_
  rintro ⟨done, s⟩ ⟨hr, hs, hc⟩
  dsimp only at hr hs hc ⊢
  refine T_region ?_
  refine TL_next rfl rfl (fun hp => ?_) (fun q1 cs1 hq hd1 hlt => ?_)
  · refine TL_y rfl rfl (Y_extract rfl rfl) ?_
    refine TL_name 7 (v' := .bool false) rfl (rfl) ?_
    refine TL_nil ?_
    refine T_seq ?_
    refine T_cond_false rfl ?_
    refine T_exit ?_
    refine thenS_exit ?_
    refine thenS_exit ?_
    refine inB_hit ?_
    refine RetQ.gives (endr it) ?_
    exact RetG_0 (.inr rfl) rfl GivesTo.g (⟨_, s, fun _ => hp.map _, hr, rfl⟩)
  · refine TL_y rfl rfl (Y_extract rfl rfl) ?_
    refine TL_name 7 (v' := .bool true) rfl (rfl) ?_
    refine TL_nil ?_
    refine T_seq ?_
    refine T_cond_true rfl ?_
    refine T_skip ?_
    refine thenS_normal ?_
    refine T_block ?_
    refine T_region ?_
    refine TL_entry rfl rfl ?_
    intro cs8 ok8
    refine TL_y rfl rfl (Y_extract rfl rfl) ?_
    refine TL_y rfl rfl (Y_assign rfl) ?_
    refine TL_nil ?_
    refine T_region ?_
    refine TL_y rfl rfl (Y_move rfl) ?_
    refine TL_y rfl rfl (Y_move rfl) ?_
    refine TL_pullk l ?_
    refine TL_yield rfl rfl rfl (hy s q1.1 _ hs ok8 (by omega)) ?_
    rintro _ _ ⟨s2, hst, rfl, rfl⟩
    refine TL_y rfl rfl (Y_not rfl) ?_
    refine TL_nil ?_
    refine T_cond rfl (fun h13 => ?_) (fun h13 => ?_)
    · have hs2 : stop s2 = true := by simpa using h13
      refine T_ret ?_
      refine inB_ret ?_
      refine thenS_ret ?_
      refine inB_ret ?_
      refine RetQ.gives (endr it) ?_
      exact RetG_0 (.inl rfl) rfl GivesTo.g (⟨_, s2, fun h => (by rw [hs2] at h; cases h), hr.snoc h0 hs hst, rfl⟩)
    · have hs2 : stop s2 = false := by simpa using h13
      refine T_skip ?_
      refine inB_normal ?_
      refine thenS_normal ?_
      exact ⟨(done ++ [q1], s2), ⟨by rw [List.map_append]; exact hr.snoc h0 hs hst, hs2, by rw [hcnt _ _ _ hst, hc]; simp⟩, by simp only [List.length_append, List.length_cons, List.length_nil]; omega, holds_to (sub_cons rfl (sub_cons rfl (sub_nil))) GivesTo.g⟩
theorem keysF_iter {β : Type} {R : Rep β} {ag : Bool} {b bx : Nat} {m : List (ByteArray × β)} : IterC Try.prog (.func (.func 49) #[] #[.pointer (some ⟨bx, 0, none⟩)]) (fun k : ByteArray => [.string k]) (fun k => k.size ≤ maxEl) m.length [cells bx [.map (some b)] 49, omap strK R ag b m] (fun s ks => s = false → ks.Perm (m.map (·.1))) :=
  ⟨_, [], [.pointer (some ⟨bx, 0, none⟩)], rfl, inferInstance, fun τ l C step stop cnt s0 Lx h0 hc hcnt hy => (keysF1_spec h0 hc hcnt hy).cases_ fun v L' ⟨xs, s', a1, a2, a3⟩ => ⟨xs, s', a1, a2, a3⟩⟩
theorem keysF_spec {L : List HP} {b : Nat} : Fn Try.prog 31 #[.map (some b)] L (fun v L' => ∃ bx, v = .func (.func 49) #[] #[.pointer (some ⟨bx, 0, none⟩)] ∧ L' = cells bx [.map (some b)] 49 :: L) := by
  refine Fn_enter Try.func31 rfl rfl rfl rfl ?_
  refine T_region ?_
  refine TL_box rfl rfl rfl ?_
  intro b1
  refine TL_y rfl rfl (Y_assign rfl) ?_
  refine TL_nil ?_
  refine T_region ?_
  refine TL_y rfl rfl (Y_make_func rfl rfl) ?_
  refine TL_y rfl rfl (Y_assign rfl) ?_
  refine TL_nil ?_
  refine T_ret ?_
  exact RetG_1 (.inl rfl) rfl (ResV.tmp rfl) GivesTo.g (⟨b1, rfl, rfl⟩)
end Go.SL
set_option linter.unusedVariables false
set_option linter.unusedSimpArgs false
namespace Go.SL
open Go Go.Proofs
structure FileD where
  name : ByteArray
  bytes : ByteArray
  synced : Int
abbrev fileC (f : FileD) : List Value := [.string f.name, .string f.bytes, .int .i64 f.synced]
def fileOk (f : FileD) : Prop := f.name.size ≤ maxEl ∧ f.bytes.size ≤ maxEl ∧ intIn .i64 f.synced
def fileR : Rep FileD := ⟨3, fun _ a cs => cs = fileC a ∧ fileOk a, fun _ h => h, fun h => by rw [h.1]; rfl, fun h v hv => by rw [h.1] at hv; simp at hv; rcases hv with rfl | rfl | rfl <;> rfl⟩
instance : RepF fileR fileC := ⟨fun _ _ _ h => h.1⟩
abbrev fileV (f : FileD) : Value := .agg (List.toArray (fileC f))
def viewF (e : FileE) : FileD := ⟨e.name, strOfNums e.bytes, e.synced⟩
theorem str_size (xs : List Int) : (strOfNums xs).size = xs.length := by simp [strOfNums, ByteArray.size]
theorem tot_mem {l : List FileE} {e : FileE} (he : e ∈ l) : e.bytes.length ≤ totF l := by
  induction l with
  | nil => cases he
  | cons x r ih =>
    rw [totF_cons]
    rcases List.mem_cons.1 he with rfl | he
    · omega
    · have := ih he; omega
theorem view_ok {s : DkS} (hi : KI s) {e : FileE} (he : e ∈ s.l) : fileOk (viewF e) := by
  have h1 := hi.ok e he
  have h2 := tot_mem he
  have h3 := hi.tot
  have h4 := hi.size
  refine ⟨by show e.name.size ≤ maxEl; simp only [maxEl]; omega, by show (strOfNums e.bytes).size ≤ maxEl; rw [str_size]; simp only [maxEl]; omega, show intIn .i64 e.synced from i64In_mk (by omega)⟩
def namesF (l : List FileE) : List ByteArray := l.map fun e => e.name
structure FsG where
  i : Nat
  A : Option Addr
  c : Nat
theorem diskFiles_spec {L : List HP} {b bt : Nat} {s : DkS} : Fn Try.prog 8 #[.pointer (some ⟨b, 0, none⟩)] (dk b bt s :: L) (fun v L' => ∃ A c, v = .slice A (s.l.map viewF).length c ∧ L' = osl fileR 40 A c (s.l.map viewF) :: dk b bt s :: L) := by
  refine Fn_enter Try.func8 rfl rfl rfl rfl ?_
  refine T_region ?_
  refine TL_y rfl rfl (Y_assign rfl) ?_
  refine TL_nil ?_
  refine T_seq ?_
  refine T_region ?_
  refine TL_y rfl rfl (Y_move rfl) ?_
  refine TL_call rfl rfl (diskMade_spec) ?_
  rintro _ _ ⟨rfl, rfl⟩
  refine TL_name 8 (v' := .bool true) rfl (rfl) ?_
  refine TL_y rfl rfl (Y_not_t rfl) ?_
  refine TL_nil ?_
  refine T_cond_false rfl ?_
  refine T_skip ?_
  refine thenS_normal ?_
  refine T_region ?_
  refine TL_y rfl rfl (Y_assign rfl) ?_
  refine TL_nil ?_
  refine T_seq ?_
  refine T_dk fun hi => ?_
  have hlen := hi.len
  have htot := hi.tot
  have hsz := hi.size
  refine T_region ?_
  refine TL_y rfl rfl (Y_move rfl) ?_
  refine TL_y rfl rfl (Y_nil_check rfl) ?_
  refine TL_y rfl rfl (Y_field_addr rfl) ?_
  refine TL_y rfl rfl (Y_load rfl rfl) ?_
  refine TL_call rfl rfl (keysF_spec) ?_
  rintro _ _ ⟨bx, rfl, rfl⟩
  refine TL_gives (show Gives _ (cells bx [.map (some bt)] 49 :: omap strK fpR false bt (fmap s.l) :: cells b [.map (some bt), .int .i64 (leftK s), .int .i64 s.calls] 51 :: allH (s.l.map fH) :: L) from GivesTo.g) ?_
  refine TL_call rfl rfl (sortedS_spec (Lf := [cells bx [.map (some bt)] 49, omap strK fpR false bt (fmap s.l)]) (Lr := cells b [.map (some bt), .int .i64 (leftK s), .int .i64 s.calls] 51 :: allH (s.l.map fH) :: L) (keysF_iter (R := fpR) (ag := false) (b := bt) (bx := bx) (m := fmap s.l)) (by simp; omega)) ?_
  rintro _ _ ⟨A15, c15, ks, rfl, hperm, rfl⟩
  rw [show srtS ks = namesF s.l from srtS_of (by have := hperm rfl; rwa [List.map_map] at this) (List.pairwise_map.2 (hi.inc.imp fun h => ltN_iff.1 h))]
  simp only [List.cons_append, List.nil_append]
  refine TL_freeze_osl ?_
  refine TL_y rfl rfl (Y_len rfl) ?_
  refine TL_name 16 (v' := .int .i64 (s.l.length : Int)) rfl (by simp [namesF]) ?_
  refine TL_y rfl rfl (Y_move rfl) ?_
  refine TL_gives (show Gives _ (osl fileR 40 none 0 ((s.l.take 0).map viewF) :: _) from osl_nil fileR 40 none _) ?_
  refine TL_nil ?_
  refine T_block ?_
  refine T_loopK (σ := FsG) [0, 15, 16] (fun g => g.i ≤ s.l.length) (fun g kv => (3, .slice g.A ((s.l.take g.i).map viewF).length g.c) :: (17, .int .i64 (g.i : Int)) :: kv) (fun g => osl fileR 40 g.A g.c ((s.l.take g.i).map viewF) :: sl strR A15 c15 (namesF s.l) :: cells b [.map (some bt), .int .i64 (leftK s), .int .i64 s.calls] 51 :: omap strK fpR false bt (fmap s.l) :: allH (s.l.map fH) :: L) (fun g => s.l.length - g.i) (⟨0, none, 0⟩) rfl (Nat.zero_le _) (GivesTo.g) (sub_cons rfl (sub_cons rfl (sub_cons rfl (sub_cons rfl (sub_cons rfl (sub_nil)))))) ?_
  rintro ⟨i, X, cx⟩ hil
  dsimp only at hil ⊢
  refine T_region ?_
  refine TL_y rfl rfl (Y_lt rfl rfl) ?_
  refine TL_nil ?_
  refine T_seq ?_
  refine T_if rfl (fun h18 => ?_) (fun h18 => ?_)
  · refine T_skip ?_
    refine thenS_normal ?_
    refine T_seq ?_
    refine T_block ?_
    obtain ⟨e, he⟩ : ∃ e, s.l[i]? = some e := ⟨_, List.getElem?_eq_getElem (by omega)⟩
    have hem := List.mem_of_getElem? he
    have hu : (namesF s.l)[i]? = some e.name := by unfold namesF; rw [List.getElem?_map, he]; rfl
    have hvo := view_ok hi hem
    have hsn : (s.l.take i).map viewF ++ [viewF e] = (s.l.take (i + 1)).map viewF := by rw [takeAt he, List.map_append]; rfl
    refine T_addr_n (sln (A := A15) (c := c15) (R := strR)) hu fun bq oq eq => ?_
    subst eq
    refine T_region ?_
    refine TL_y rfl rfl (Y_index_n (R := strR) (xs := namesF s.l) rfl rfl rfl hu) ?_
    refine TL_y rfl rfl (Y_load_n (R := strR) (c := c15) (xs := namesF s.l) (q := 0) rfl sln hu rfl) ?_
    refine TL_y rfl rfl (Y_assign rfl) ?_
    refine TL_nil ?_
    refine T_region ?_
    refine TL_y rfl rfl (Y_move rfl) ?_
    refine TL_y rfl rfl (Y_nil_check rfl) ?_
    refine TL_y rfl rfl (Y_field_addr rfl) ?_
    refine TL_y rfl rfl (Y_load rfl rfl) ?_
    refine TL_y rfl rfl (Y_move rfl) ?_
    refine TL_y rfl rfl (Y_lookup (k := e.name) rfl rfl hvo.1) ?_
    refine TL_name 26 (v' := .pointer (some ⟨e.blk, 0, none⟩)) rfl (by rw [look_ptr]; unfold fptr; rw [hi.inc.find hem]; rfl) ?_
    refine TL_y rfl rfl (Y_assign rfl) ?_
    refine TL_nil ?_
    refine T_fout hi.inc hem fun A8 c8 => ?_
    refine T_region_draw_last (cells e.blk [.slice A8 e.bytes.length c8, .int .i64 e.synced] 67 :: osl (intR .u8) 5 A8 c8 e.bytes :: []) [0, 0, 0, 4, 12, 28, 60, 0, 128, 384, 896, 2046, 4094, 8191, 16383] [] [(0, true), (1, true), (2, true), (3, true), (4, true), (5, true), (6, true), (7, true), (8, true), (9, true), (10, true), (11, true), (12, false), (13, false), (14, true)] (by kernel_rfl) (by decide +kernel) GivesTo.g ?_
    refine TF_y rfl rfl (Y_move rfl) ?_
    refine TF_y rfl rfl (Y_move rfl) ?_
    refine TF_y rfl rfl (Y_move rfl) ?_
    refine TF_y rfl rfl (Y_nil_check rfl) ?_
    refine TF_y rfl rfl (Y_field_addr rfl) ?_
    refine TF_y rfl rfl (Y_load rfl rfl) ?_
    refine TF_y rfl rfl (Y_bytes_strN rfl sln) ?_
    refine TF_y rfl rfl (Y_move rfl) ?_
    refine TF_y rfl rfl (Y_nil_check rfl) ?_
    refine TF_y rfl rfl (Y_field_addr rfl) ?_
    refine TF_y rfl rfl (Y_load rfl rfl) ?_
    refine TF_y rfl rfl (Y_build rfl rfl) ?_
    refine TF_name 38 (v' := fileV (viewF e)) rfl (rfl) ?_
    refine TF_anchor rfl ?_
    refine TL_build_slice rfl rfl rfl rfl rfl rfl ?_
    intro b39
    refine TL_osl (k := 1) fileR [viewF e] (Knows.const fun M => ⟨fileC (viewF e), [], ⟨rfl, hvo⟩, rfl, rfl⟩) rfl (by decide) ?_
    refine TL_freeze_osl ?_
    refine TL_name 39 (v' := .slice (some ⟨b39, 0, none⟩) [viewF e].length 1) rfl rfl ?_
    refine TF_end GivesTo.g ?_
    refine TF_anchor rfl ?_
    refine TL_append rfl rfl rfl rfl rfl slk (by simp only [List.length_cons, List.length_nil, List.length_map, List.length_take]; omega) ?_
    intro A40 c40
    rw [hsn]
    refine TF_end GivesTo.g ?_
    refine TF_y rfl rfl (Y_assign rfl) ?_
    refine TF_nil ?_
    refine inB_normal ?_
    refine thenS_normal ?_
    refine T_gives (f_back (A := A8) (c := c8) hi.inc hem) ?_
    refine T_region_last ?_
    refine TL_y rfl rfl (Y_add rfl rfl (by omega)) ?_
    refine TL_name 41 (v' := .int .i64 ((i + 1 : Nat) : Int)) rfl (rfl) ?_
    refine TL_y rfl rfl (Y_move rfl) ?_
    refine TL_gives (show Gives _ (osl fileR 40 none 0 ((s.l.take 0).map viewF) :: _) from osl_nil fileR 40 none _) ?_
    refine TL_nil ?_
    refine thenS_normal ?_
    exact ⟨⟨i + 1, A40, c40⟩, (by simp only; omega), by simp only; omega, holds_to (sub_cons rfl (sub_cons rfl (sub_cons rfl (sub_cons rfl (sub_cons rfl (sub_nil)))))) GivesTo.g⟩
  · refine T_exit ?_
    refine thenS_exit ?_
    refine thenS_exit ?_
    refine inB_hit ?_
    refine thenS_normal ?_
    refine T_region ?_
    refine TL_y rfl rfl (Y_move rfl) ?_
    refine TL_y rfl rfl (Y_assign rfl) ?_
    refine TL_nil ?_
    refine T_ret ?_
    rw [List.take_of_length_le (show s.l.length ≤ i by omega)]
    refine RetQ.gives (dk_close b bt s hi) ?_
    refine RetQ.gives (show Gives _ (osl fileR 40 X cx (s.l.map viewF) :: dk b bt s :: L) from GivesTo.g) ?_
    exact RetG_1 (.inl rfl) rfl (ResV.tmp rfl) GivesTo.g (⟨X, cx, rfl, rfl⟩)
end Go.SL
set_option linter.unusedVariables false
set_option linter.unusedSimpArgs false
namespace Go.SL
open Go Go.Proofs
abbrev TornD := ByteArray × Int
abbrev tornC (t : TornD) : List Value := [.string t.1, .int .i64 t.2]
def tornOk (t : TornD) : Prop := t.1.size ≤ maxEl ∧ intIn .i64 t.2
def tornR : Rep TornD := ⟨2, fun _ a cs => cs = tornC a ∧ tornOk a, fun _ h => h, fun h => by rw [h.1]; rfl, fun h v hv => by rw [h.1] at hv; simp at hv; rcases hv with rfl | rfl <;> rfl⟩
instance : RepF tornR tornC := ⟨fun _ _ _ h => h.1⟩
def okT (s : DkS) (t : TornD) : Prop := ∃ e, findF s.l t.1 = some e ∧ 0 ≤ t.2 ∧ t.2 ≤ (e.bytes.length : Int) - e.synced
instance (s : DkS) (t : TornD) : Decidable (okT s t) := by
  unfold okT
  cases h : findF s.l t.1 with
  | none => exact isFalse (by rintro ⟨e, h1, _⟩; cases h1)
  | some e => exact decidable_of_iff (0 ≤ t.2 ∧ t.2 ≤ (e.bytes.length : Int) - e.synced) ⟨fun h => ⟨e, rfl, h⟩, fun ⟨e2, h1, h2⟩ => by cases h1; exact h2⟩
def crashOk (s : DkS) (keep : List TornD) : Prop := keep.Pairwise (fun p q => p.1 ≠ q.1) ∧ ∀ t ∈ keep, okT s t
instance (s : DkS) (keep : List TornD) : Decidable (crashOk s keep) := by unfold crashOk; exact inferInstance
def kpt (keep : List TornD) (k : ByteArray) : Int := (getM keep k).getD 0
def cutE (keep : List TornD) (e : FileE) : FileE := ⟨e.name, e.blk, e.bytes.take (e.synced + kpt keep e.name).toNat, e.synced + kpt keep e.name⟩
def crashK (s : DkS) (keep : List TornD) : DkS := ⟨s.size, -1, s.l.map (cutE keep)⟩
section
variable {s : DkS} {keep : List TornD}
theorem kpt_ok (hi : KI s) (hc : crashOk s keep) {e : FileE} (he : e ∈ s.l) : 0 ≤ kpt keep e.name ∧ kpt keep e.name ≤ (e.bytes.length : Int) - e.synced := by
  unfold kpt
  have h1 := hi.ok e he
  cases hg : getM keep e.name with
  | none => exact ⟨Int.le_refl _, by show (0 : Int) ≤ _; omega⟩
  | some n =>
    obtain ⟨e2, q1, q2, q3⟩ := hc.2 _ (getM_mem hg)
    rw [hi.inc.find he] at q1; cases q1
    exact ⟨q2, q3⟩
theorem IncF.map_same {l : List FileE} (h : IncF l) (f : FileE → FileE) (hn : ∀ e, (f e).name = e.name) : IncF (l.map f) := List.pairwise_map.2 (h.imp fun h => by rw [hn, hn]; exact h)
theorem fmap_map {l : List FileE} (f : FileE → FileE) (hn : ∀ e, (f e).name = e.name) (hb : ∀ e, (f e).blk = e.blk) : fmap (l.map f) = fmap l := by
  unfold fmap; rw [List.map_map]; exact List.map_congr_left fun e _ => by simp [hn, hb]
theorem tot_map {l : List FileE} (f : FileE → FileE) (h : ∀ e ∈ l, (f e).bytes.length ≤ e.bytes.length) : totF (l.map f) ≤ totF l := by
  induction l with
  | nil => exact Nat.le_refl _
  | cons x r ih =>
    rw [List.map_cons, totF_cons, totF_cons]
    have h1 := h x List.mem_cons_self
    have h2 := ih fun e he => h e (List.mem_cons_of_mem _ he)
    omega
noncomputable local instance decMemB (k : ByteArray) (l : List ByteArray) : Decidable (k ∈ l) := Classical.propDecidable _
abbrev dnm (done : List (ByteArray × Nat)) : List ByteArray := done.map fun q => q.1
/-- The files, of which some are cut already. -/
noncomputable def lD (keep : List TornD) (l : List FileE) (done : List (ByteArray × Nat)) : List FileE := l.map fun e => if e.name ∈ dnm done then cutE keep e else e
theorem lD_name (keep : List TornD) (done : List (ByteArray × Nat)) (e : FileE) : (if e.name ∈ dnm done then cutE keep e else e).name = e.name := by split <;> rfl
theorem lD_inc (hi : IncF s.l) (done : List (ByteArray × Nat)) : IncF (lD keep s.l done) := hi.map_same _ (lD_name keep done)
theorem lD_mem {done : List (ByteArray × Nat)} {e : FileE} (he : e ∈ s.l) (hn : e.name ∉ dnm done) : e ∈ lD keep s.l done := List.mem_map.2 ⟨e, he, by rw [if_neg hn]⟩
theorem lD_step (hi : IncF s.l) {done : List (ByteArray × Nat)} {e : FileE} (he : e ∈ s.l) (hn : e.name ∉ dnm done) : (cutE keep e :: delF (lD keep s.l done) e.name).Perm (lD keep s.l (done ++ [(e.name, e.blk)])) := by
  have h1 := (delF_perm (lD_inc (keep := keep) hi done) (lD_mem he hn)).map fun x : FileE => if x.name = e.name then cutE keep e else x
  have h2 : (delF (lD keep s.l done) e.name).map (fun x : FileE => if x.name = e.name then cutE keep e else x) = delF (lD keep s.l done) e.name := by
    conv => rhs; rw [← List.map_id (delF (lD keep s.l done) e.name)]
    exact List.map_congr_left fun x hx => by rw [if_neg (mem_delF.1 hx).2]; rfl
  rw [List.map_cons, h2, if_pos rfl] at h1
  refine h1.trans (List.Perm.of_eq ?_)
  unfold lD
  rw [List.map_map]
  refine List.map_congr_left fun x hx => ?_
  simp only [Function.comp]
  rw [lD_name]
  by_cases hxe : x.name = e.name
  · have : x = e := hi.inj hx he hxe
    subst this
    simp
  · rw [if_neg hxe]
    have e1 : (x.name ∈ dnm (done ++ [(e.name, e.blk)])) ↔ x.name ∈ dnm done := by simp [hxe]
    by_cases hxd : x.name ∈ dnm done
    · rw [if_pos hxd, if_pos (e1.2 hxd)]
    · rw [if_neg hxd, if_neg (fun h => hxd (e1.1 h))]
theorem cutE_len (hi : KI s) (hc : crashOk s keep) {e : FileE} (he : e ∈ s.l) : ((cutE keep e).bytes.length : Int) = e.synced + kpt keep e.name := by
  have h1 := kpt_ok hi hc he
  have h2 := hi.ok e he
  show ((e.bytes.take (e.synced + kpt keep e.name).toNat).length : Int) = _
  rw [List.length_take]; omega
theorem lD_tot (hi : KI s) (hc : crashOk s keep) {done : List (ByteArray × Nat)} {e : FileE} (he : e ∈ s.l) (hn : e.name ∉ dnm done) : (totF (lD keep s.l (done ++ [(e.name, e.blk)])) : Int) + ((e.bytes.length : Int) - (e.synced + kpt keep e.name)) = (totF (lD keep s.l done) : Int) := by
  have h1 := totF_perm (lD_step (keep := keep) hi.inc he hn)
  have h2 := delF_tot (lD_inc (keep := keep) hi.inc done) (lD_mem he hn)
  have h3 := cutE_len hi hc he
  rw [totF_cons] at h1
  omega
theorem lD_all {done : List (ByteArray × Nat)} (h : ∀ e ∈ s.l, e.name ∈ dnm done) : lD keep s.l done = s.l.map (cutE keep) := List.map_congr_left fun e he => if_pos (h e he)
theorem KI.crash (hi : KI s) (hc : crashOk s keep) : KI (crashK s keep) := by
  have hle : ∀ e ∈ s.l, (cutE keep e).bytes.length ≤ e.bytes.length := fun e he => by show (e.bytes.take _).length ≤ _; rw [List.length_take]; omega
  refine ⟨hi.size, ⟨Int.le_refl _, show intIn .i64 (-1) from i64In_mk (by decide)⟩, hi.inc.map_same _ fun e => rfl, by show (s.l.map _).length ≤ 64; rw [List.length_map]; exact hi.len, ?_, fun q hq => ?_⟩
  · have h1 := tot_map (cutE keep) hle
    have h2 := hi.tot
    show (totF (s.l.map (cutE keep)) : Int) ≤ s.size
    omega
  · obtain ⟨e, he, rfl⟩ := List.mem_map.1 hq
    have h1 := hi.ok e he
    have h2 := kpt_ok hi hc he
    refine ⟨h1.1, by show 0 ≤ e.synced + kpt keep e.name; omega, by rw [cutE_len hi hc he]; exact Int.le_refl _, fun x hx => h1.2.2.2 x (List.mem_of_mem_take hx)⟩
theorem crash_case (s : DkS) (m : List TornD) (t : TornD) : ((getM m t.1).isSome = true) ∨ (getM m t.1 = none ∧ findF s.l t.1 = none) ∨ (getM m t.1 = none ∧ ∃ e, findF s.l t.1 = some e ∧ ¬ (0 ≤ t.2 ∧ t.2 ≤ (e.bytes.length : Int) - e.synced)) ∨ (getM m t.1 = none ∧ ∃ e, findF s.l t.1 = some e ∧ (0 ≤ t.2 ∧ t.2 ≤ (e.bytes.length : Int) - e.synced)) := by
  cases h1 : getM m t.1 with
  | some n => exact .inl rfl
  | none =>
    cases h2 : findF s.l t.1 with
    | none => exact .inr (.inl ⟨rfl, rfl⟩)
    | some e =>
      by_cases h3 : 0 ≤ t.2 ∧ t.2 ≤ (e.bytes.length : Int) - e.synced
      · exact .inr (.inr (.inr ⟨rfl, e, rfl, h3⟩))
      · exact .inr (.inr (.inl ⟨rfl, e, rfl, h3⟩))
end
theorem cutRaw_spec {L : List HP} {b bt : Nat} {lf ca : Int} {e : FileE} {A : Option Addr} {c : Nat} {n : Int} (hn : 0 ≤ n ∧ n ≤ (e.bytes.length : Int)) (hl : 0 ≤ lf ∧ lf ≤ 1000000000) (hel : e.bytes.length ≤ 1000000000) : Fn Try.prog 32 #[.pointer (some ⟨b, 0, none⟩), .pointer (some ⟨e.blk, 0, none⟩), .int .i64 n] (cells b [.map (some bt), .int .i64 lf, .int .i64 ca] 51 :: cells e.blk [.slice A e.bytes.length c, .int .i64 e.synced] 67 :: osl (intR .u8) 5 A c e.bytes :: L) (fun v L' => v = .tuple #[] ∧ ∃ A' c', L' = cells b [.map (some bt), .int .i64 (lf + ((e.bytes.length : Int) - n)), .int .i64 ca] 51 :: cells e.blk [.slice A' (e.bytes.take n.toNat).length c', .int .i64 n] 67 :: osl (intR .u8) 5 A' c' (e.bytes.take n.toNat) :: L) := by
  have htl : (e.bytes.take n.toNat).length = n.toNat := by rw [List.length_take]; omega
  refine Fn_enter Try.func32 rfl rfl rfl rfl ?_
  refine SlN.lens (sln (R := intR .u8) (A := A) (c := c) (xs := e.bytes)) fun hlc => ?_
  refine T_region_draw (cells b [.map (some bt), .int .i64 lf, .int .i64 ca] 51 :: cells e.blk [.slice A e.bytes.length c, .int .i64 e.synced] 67 :: []) [0, 1, 3, 7, 0, 16, 48, 112, 240, 0, 1008, 2047, 4095, 8191, 16383] [14] [(0, true), (1, true), (2, true), (3, true), (4, true), (5, true), (6, true), (7, true), (8, true), (9, true), (10, true), (11, true), (12, true), (13, true), (14, false)] (by kernel_rfl) (by decide +kernel) GivesTo.g ?_
  refine TF_y rfl rfl (Y_move rfl) ?_
  refine TF_y rfl rfl (Y_nil_check rfl) ?_
  refine TF_y rfl rfl (Y_field_addr rfl) ?_
  refine TF_y rfl rfl (Y_load rfl rfl) ?_
  refine TF_y rfl rfl (Y_move rfl) ?_
  refine TF_y rfl rfl (Y_nil_check rfl) ?_
  refine TF_y rfl rfl (Y_field_addr rfl) ?_
  refine TF_y rfl rfl (Y_load rfl rfl) ?_
  refine TF_y rfl rfl (Y_len rfl) ?_
  refine TF_y rfl rfl (Y_move rfl) ?_
  refine TF_y rfl rfl (Y_sub rfl rfl (by omega)) ?_
  refine TF_y rfl rfl (Y_add rfl rfl (by omega)) ?_
  refine TF_y rfl rfl (Y_nil_check rfl) ?_
  refine TF_y rfl rfl (Y_field_addr rfl) ?_
  refine TF_anchor rfl ?_
  refine TL_store rfl rfl rfl rfl rfl rfl ?_
  refine TF_end_tail rfl ?_
  refine TF_nil ?_
  refine T_region_last ?_
  refine TL_y rfl rfl (Y_move rfl) ?_
  refine TL_y rfl rfl (Y_move rfl) ?_
  refine TL_y rfl rfl (Y_move rfl) ?_
  refine TL_y rfl rfl (Y_nil_check rfl) ?_
  refine TL_y rfl rfl (Y_field_addr rfl) ?_
  refine TL_y rfl rfl (Y_load rfl rfl) ?_
  refine TL_y rfl rfl (Y_move rfl) ?_
  refine TL_y rfl rfl (Y_cut_h rfl rfl (by omega)) ?_
  refine TL_name 27 (v' := .slice A (e.bytes.take n.toNat).length c) rfl (by congr 1; omega) ?_
  refine TL_call rfl rfl (cloneB_spec ((sln (R := intR .u8) (A := A) (c := c) (xs := e.bytes)).take n.toNat) (by omega)) ?_
  rintro _ _ ⟨A28, c28, rfl, rfl⟩
  refine TL_y rfl rfl (Y_move rfl) ?_
  refine TL_y rfl rfl (Y_nil_check rfl) ?_
  refine TL_y rfl rfl (Y_field_addr rfl) ?_
  refine TL_store rfl rfl rfl rfl rfl rfl ?_
  refine TL_y rfl rfl (Y_nil_check rfl) ?_
  refine TL_y rfl rfl (Y_field_addr rfl) ?_
  refine TL_store rfl rfl rfl rfl rfl rfl ?_
  refine TL_nil ?_
  exact RetG_0 (.inr rfl) rfl GivesTo.g (⟨rfl, A28, c28, rfl⟩)
end Go.SL
set_option linter.unusedVariables false
set_option linter.unusedSimpArgs false
namespace Go.SL
open Go Go.Proofs
theorem del_noneM {κ α : Type} [DecidableEq κ] {m : List (κ × α)} {k : κ} (h : getM m k = none) : delM m k = m := List.filter_eq_self.2 fun q hq => by simpa using getM_none.1 h q hq
theorem not_crash1 {s : DkS} {keep : List TornD} {i : Nat} {t : TornD} (ht : keep[i]? = some t) (h : (getM (keep.take i) t.1).isSome = true) : ¬ crashOk s keep := fun hc => by
  obtain ⟨n, hn⟩ := Option.isSome_iff_exists.1 h
  have hlt := (List.getElem?_eq_some_iff.1 ht).1
  have e : keep = keep.take i ++ t :: keep.drop (i + 1) := by
    have h2 := (List.getElem?_eq_some_iff.1 ht).2
    conv => lhs; rw [← List.take_append_drop i keep, List.drop_eq_getElem_cons hlt, h2]
  have h1 := hc.1
  rw [e] at h1
  exact (List.pairwise_append.1 h1).2.2 _ (getM_mem hn) t List.mem_cons_self rfl
theorem not_crash2 {s : DkS} {keep : List TornD} {i : Nat} {t : TornD} (ht : keep[i]? = some t) (h : ¬ okT s t) : ¬ crashOk s keep := fun hc => h (hc.2 t (List.mem_of_getElem? ht))
theorem crash_snoc {s : DkS} {m : List TornD} {t : TornD} (hc : crashOk s m) (hn : getM m t.1 = none) (ho : okT s t) : crashOk s (m ++ [t]) := by
  refine ⟨List.pairwise_append.2 ⟨hc.1, by simp, fun a ha b hb => ?_⟩, fun x hx => ?_⟩
  · simp at hb; subst hb; exact getM_none.1 hn a ha
  · rcases List.mem_append.1 hx with hx | hx
    · exact hc.2 x hx
    · simp at hx; subst hx; exact ho
theorem lD_nil (keep : List TornD) (l : List FileE) : lD keep l [] = l := by
  unfold lD
  conv => rhs; rw [← List.map_id l]
  exact List.map_congr_left fun e _ => by simp [dnm]
theorem lD_le (keep : List TornD) (l : List FileE) (done : List (ByteArray × Nat)) : totF (lD keep l done) ≤ totF l := tot_map _ fun e he => by
  split
  · show (e.bytes.take _).length ≤ _; rw [List.length_take]; omega
  · exact Nat.le_refl _
theorem cr_in {L : List HP} {s : DkS} {keep : List TornD} {done : List (ByteArray × Nat)} {e : FileE} {A : Option Addr} {c : Nat} (hi : IncF s.l) (he : e ∈ s.l) (hn : e.name ∉ dnm done) : Gives (cells e.blk [.slice A (e.bytes.take (e.synced + kpt keep e.name).toNat).length c, .int .i64 (e.synced + kpt keep e.name)] 67 :: osl (intR .u8) 5 A c (e.bytes.take (e.synced + kpt keep e.name).toNat) :: allH ((delF (lD keep s.l done) e.name).map fH) :: L) (allH ((lD keep s.l (done ++ [(e.name, e.blk)])).map fH) :: L) := by
  refine Gives.trans (exH_close (f := fun p : Option Addr × Nat => fcells (cutE keep e) p.1 p.2) (L := allH ((delF (lD keep s.l done) e.name).map fH) :: L) (A, c)) ?_
  exact allH_cons.trans (allH_perm ((lD_step hi he hn).map fH))
theorem diskCrash_spec {L : List HP} {b bt : Nat} {s : DkS} {A0 : Option Addr} {c0 : Nat} {keep : List TornD} (hk : SlN L tornR A0 c0 keep) : Fn Try.prog 9 #[.pointer (some ⟨b, 0, none⟩), .slice A0 keep.length c0] (dk b bt s :: L) (fun v L' => v = .int .i64 (if crashOk s keep then 0 else 1) ∧ L' = dk b bt (if crashOk s keep then crashK s keep else s) :: L) := by
  refine Fn_enter Try.func9 rfl rfl rfl rfl ?_
  refine T_region ?_
  refine TL_y rfl rfl (Y_assign rfl) ?_
  refine TL_nil ?_
  refine T_seq ?_
  refine T_region ?_
  refine TL_y rfl rfl (Y_move rfl) ?_
  refine TL_call rfl rfl (diskMade_spec) ?_
  rintro _ _ ⟨rfl, rfl⟩
  refine TL_name 14 (v' := .bool true) rfl (rfl) ?_
  refine TL_y rfl rfl (Y_not_t rfl) ?_
  refine TL_nil ?_
  refine T_cond_false rfl ?_
  refine T_skip ?_
  refine thenS_normal ?_
  refine SlN.lens hk.tail fun hkl => ?_
  simp only [maxEl] at hkl
  refine T_dk fun hi => ?_
  have htot := hi.tot
  have hsz := hi.size
  refine T_region ?_
  refine TL_makeMap strK (intR .i64) false rfl ?_
  intro bk
  refine TL_gives (show Gives _ (omap strK (intR .i64) false bk (keep.take 0) :: _) from Gives.refl _) ?_
  refine TL_y rfl rfl (Y_assign rfl) ?_
  refine TL_nil ?_
  refine T_seq ?_
  refine T_region ?_
  refine TL_y rfl rfl (Y_move rfl) ?_
  refine TL_y rfl rfl (Y_len rfl) ?_
  refine TL_y rfl rfl (Y_move rfl) ?_
  refine TL_nil ?_
  refine T_block ?_
  refine T_loopK (σ := Nat) [0, 5, 17, 18] (fun i => i ≤ keep.length ∧ crashOk s (keep.take i)) (fun i kv => (19, .int .i64 (i : Int)) :: kv) (fun i => omap strK (intR .i64) false bk (keep.take i) :: cells b [.map (some bt), .int .i64 (leftK s), .int .i64 s.calls] 51 :: omap strK fpR false bt (fmap s.l) :: allH (s.l.map fH) :: L) (fun i => keep.length - i) (0) rfl (⟨Nat.zero_le _, List.Pairwise.nil, by simp⟩) (GivesTo.g) (sub_cons rfl (sub_cons rfl (sub_cons rfl (sub_cons rfl (sub_cons rfl (sub_nil)))))) ?_
  rintro i ⟨hil, hco⟩
  refine T_region ?_
  refine TL_y rfl rfl (Y_lt rfl rfl) ?_
  refine TL_nil ?_
  refine T_seq ?_
  refine T_if rfl (fun h20 => ?_) (fun h20 => ?_)
  · refine T_skip ?_
    refine thenS_normal ?_
    refine T_seq ?_
    refine T_block ?_
    obtain ⟨t, ht⟩ : ∃ t, keep[i]? = some t := ⟨_, List.getElem?_eq_getElem (by omega)⟩
    have htk := takeAt ht
    have hkk : SlN (omap strK (intR .i64) false bk (keep.take i) :: cells b [.map (some bt), .int .i64 (leftK s), .int .i64 s.calls] 51 :: omap strK fpR false bt (fmap s.l) :: allH (s.l.map fH) :: L) tornR A0 c0 keep := hk.tail.tail.tail.tail
    refine T_elem_fact hkk ht (fun M l h => h.2) fun hto => ?_
    refine T_addr_n hkk ht fun bq oq eq => ?_
    subst eq
    refine T_region ?_
    refine TL_y rfl rfl (Y_index_n (R := tornR) (xs := keep) rfl rfl rfl ht) ?_
    refine TL_y rfl rfl (Y_load_naf (R := tornR) (c := c0) (xs := keep) (q := 0) (vs := tornC t) rfl hkk ht rfl) ?_
    refine TL_alloc rfl rfl ?_
    intro b7
    refine TL_store rfl rfl rfl rfl rfl rfl ?_
    refine TL_nil ?_
    refine T_region_draw _ [0, 1, 3, 7, 0, 16, 63, 127] [] [(0, true), (1, true), (2, true), (3, true), (4, true), (5, true), (6, true), (7, true)] (by kernel_rfl) (by decide +kernel) (Gives.refl _) ?_
    refine TF_y rfl rfl (Y_move rfl) ?_
    refine TF_y rfl rfl (Y_nil_check rfl) ?_
    refine TF_y rfl rfl (Y_field_addr rfl) ?_
    refine TF_y rfl rfl (Y_load rfl rfl) ?_
    refine TF_y rfl rfl (Y_field_addr rfl) ?_
    refine TF_y rfl rfl (Y_load rfl rfl) ?_
    refine TF_y rfl rfl (Y_lookup (k := t.1) rfl rfl hto.1) ?_
    refine TF_name 29 (v' := fptr s.l t.1) rfl (look_ptr s.l t.1) ?_
    refine TF_y rfl rfl (Y_assign rfl) ?_
    refine TF_nil ?_
    refine T_seq ?_
    refine T_region ?_
    refine TL_y rfl rfl (Y_move rfl) ?_
    refine TL_y rfl rfl (Y_field_addr rfl) ?_
    refine TL_y rfl rfl (Y_load rfl rfl) ?_
    refine TL_y rfl rfl (Y_lookup_ok (k := t.1) rfl rfl hto.1) ?_
    refine TL_y rfl rfl (Y_move rfl) ?_
    refine TL_y rfl rfl (Y_extract rfl rfl) ?_
    refine TL_y rfl rfl (Y_extract rfl rfl) ?_
    refine TL_y rfl rfl (Y_assign rfl) ?_
    refine TL_y rfl rfl (Y_assign rfl) ?_
    refine TL_nil ?_
    rcases crash_case s (keep.take i) t with hc1 | ⟨hc1, hc2⟩ | ⟨hc1, e, hc2, hc3⟩ | ⟨hc1, e, hc2, hc3⟩
    · refine T_region_draw _ [0, 1, 3, 7, 15, 31, 63, 127, 255, 511, 1023, 2047, 4095, 2047, 10239, 26623, 59391, 124927, 2047, 264191, 788479, 1837055, 4188159, 8388607, 16777215] [] [(0, true), (1, true), (2, true), (3, true), (4, true), (5, true), (6, true), (7, true), (8, true), (9, true), (10, true), (11, true), (12, true), (13, true), (14, true), (15, true), (16, true), (17, true), (18, true), (19, true), (20, true), (21, true), (22, true), (23, true), (24, true)] (by kernel_rfl) (by decide +kernel) (Gives.refl _) ?_
      refine TF_y rfl rfl (Y_move rfl) ?_
      refine TF_name 37 (v' := .bool true) rfl (congrArg Value.bool hc1) ?_
      refine TF_y rfl rfl (Y_move rfl) ?_
      refine TF_gskip rfl rfl rfl rfl rfl ?_
      refine TF_gskip rfl rfl rfl rfl rfl ?_
      refine TF_y rfl rfl (Y_pick_t rfl rfl) ?_
      refine TF_y rfl rfl (Y_move rfl) ?_
      refine TF_gskip rfl rfl rfl rfl rfl ?_
      refine TF_gskip rfl rfl rfl rfl rfl ?_
      refine TF_gskip rfl rfl rfl rfl rfl ?_
      refine TF_y rfl rfl (Y_pick_t rfl rfl) ?_
      refine TF_y rfl rfl (Y_move rfl) ?_
      refine TF_gskip rfl rfl rfl rfl rfl ?_
      refine TF_gskip rfl rfl rfl rfl rfl ?_
      refine TF_gskip rfl rfl rfl rfl rfl ?_
      refine TF_gskip rfl rfl rfl rfl rfl ?_
      refine TF_gskip rfl rfl rfl rfl rfl ?_
      refine TF_gskip rfl rfl rfl rfl rfl ?_
      refine TF_gskip rfl rfl rfl rfl rfl ?_
      refine TF_gskip rfl rfl rfl rfl rfl ?_
      refine TF_gskip rfl rfl rfl rfl rfl ?_
      refine TF_gskip rfl rfl rfl rfl rfl ?_
      refine TF_gskip rfl rfl rfl rfl rfl ?_
      refine TF_gskip rfl rfl rfl rfl rfl ?_
      refine TF_gskip rfl rfl rfl rfl rfl ?_
      refine TF_y rfl rfl (Y_pick_t rfl rfl) ?_
      refine TF_nil ?_
      refine T_cond_true rfl ?_
      refine T_region ?_
      refine TL_y rfl rfl (Y_assign rfl) ?_
      refine TL_nil ?_
      refine T_ret ?_
      refine thenS_ret ?_
      refine inB_ret ?_
      refine thenS_ret ?_
      refine thenS_ret ?_
      refine inB_ret ?_
      refine thenS_ret ?_
      rw [if_neg (not_crash1 ht hc1), if_neg (not_crash1 ht hc1)]
      refine RetQ.gives (dk_close b bt s hi) ?_
      exact RetG_1 (.inl rfl) rfl (ResV.tmp rfl) GivesTo.g (⟨rfl, rfl⟩)
    · rw [show fptr s.l t.1 = .pointer none by unfold fptr; rw [hc2]; rfl]
      refine T_region_draw _ [0, 1, 3, 7, 15, 31, 63, 127, 255, 511, 1023, 2047, 4095, 2047, 10239, 26623, 59391, 124927, 2047, 264191, 788479, 1837055, 4188159, 8388607, 16777215] [] [(0, true), (1, true), (2, true), (3, true), (4, true), (5, true), (6, true), (7, true), (8, true), (9, true), (10, true), (11, true), (12, true), (13, true), (14, true), (15, true), (16, true), (17, true), (18, true), (19, true), (20, true), (21, true), (22, true), (23, true), (24, true)] (by kernel_rfl) (by decide +kernel) (Gives.refl _) ?_
      refine TF_y rfl rfl (Y_move rfl) ?_
      refine TF_name 37 (v' := .bool false) rfl (congrArg Value.bool (by rw [hc1]; rfl)) ?_
      refine TF_y rfl rfl (Y_move rfl) ?_
      refine TF_gy rfl rfl rfl rfl (Y_move rfl) ?_
      refine TF_gy rfl rfl rfl rfl (Y_equal rfl rfl (EqIs.ptr_nil)) ?_
      refine TF_name 40 (v' := .bool true) rfl (by simp) ?_
      refine TF_y rfl rfl (Y_pick_f rfl rfl) ?_
      refine TF_y rfl rfl (Y_move rfl) ?_
      refine TF_gskip rfl rfl rfl rfl rfl ?_
      refine TF_gskip rfl rfl rfl rfl rfl ?_
      refine TF_gskip rfl rfl rfl rfl rfl ?_
      refine TF_y rfl rfl (Y_pick_t rfl rfl) ?_
      refine TF_y rfl rfl (Y_move rfl) ?_
      refine TF_gskip rfl rfl rfl rfl rfl ?_
      refine TF_gskip rfl rfl rfl rfl rfl ?_
      refine TF_gskip rfl rfl rfl rfl rfl ?_
      refine TF_gskip rfl rfl rfl rfl rfl ?_
      refine TF_gskip rfl rfl rfl rfl rfl ?_
      refine TF_gskip rfl rfl rfl rfl rfl ?_
      refine TF_gskip rfl rfl rfl rfl rfl ?_
      refine TF_gskip rfl rfl rfl rfl rfl ?_
      refine TF_gskip rfl rfl rfl rfl rfl ?_
      refine TF_gskip rfl rfl rfl rfl rfl ?_
      refine TF_gskip rfl rfl rfl rfl rfl ?_
      refine TF_gskip rfl rfl rfl rfl rfl ?_
      refine TF_gskip rfl rfl rfl rfl rfl ?_
      refine TF_y rfl rfl (Y_pick_t rfl rfl) ?_
      refine TF_nil ?_
      refine T_cond_true rfl ?_
      refine T_region ?_
      refine TL_y rfl rfl (Y_assign rfl) ?_
      refine TL_nil ?_
      refine T_ret ?_
      refine thenS_ret ?_
      refine inB_ret ?_
      refine thenS_ret ?_
      refine thenS_ret ?_
      refine inB_ret ?_
      refine thenS_ret ?_
      have hnc := not_crash2 (s := s) ht (by rintro ⟨e, h1, _⟩; rw [hc2] at h1; cases h1)
      rw [if_neg hnc, if_neg hnc]
      refine RetQ.gives (dk_close b bt s hi) ?_
      exact RetG_1 (.inl rfl) rfl (ResV.tmp rfl) GivesTo.g (⟨rfl, rfl⟩)
    · obtain ⟨he, hen⟩ := findF_mem hc2
      have hoe := hi.ok e he
      have hte := tot_mem he
      rw [show fptr s.l t.1 = .pointer (some ⟨e.blk, 0, none⟩) by unfold fptr; rw [hc2]; rfl]
      refine T_fout hi.inc he fun A9 c9 => ?_
      refine T_region_draw _ [0, 1, 3, 7, 15, 31, 63, 127, 255, 511, 1023, 2047, 4095, 2047, 10239, 26623, 59391, 124927, 2047, 264191, 788479, 1837055, 4188159, 8388607, 16777215] [] [(0, true), (1, true), (2, true), (3, true), (4, true), (5, true), (6, true), (7, true), (8, true), (9, true), (10, true), (11, true), (12, true), (13, true), (14, true), (15, true), (16, true), (17, true), (18, true), (19, true), (20, true), (21, true), (22, true), (23, true), (24, true)] (by kernel_rfl) (by decide +kernel) (Gives.refl _) ?_
      refine TF_y rfl rfl (Y_move rfl) ?_
      refine TF_name 37 (v' := .bool false) rfl (congrArg Value.bool (by rw [hc1]; rfl)) ?_
      refine TF_y rfl rfl (Y_move rfl) ?_
      refine TF_gy rfl rfl rfl rfl (Y_move rfl) ?_
      refine TF_gy rfl rfl rfl rfl (Y_equal rfl rfl (EqIs.ptr_nil)) ?_
      refine TF_name 40 (v' := .bool false) rfl (by simp) ?_
      refine TF_y rfl rfl (Y_pick_f rfl rfl) ?_
      refine TF_y rfl rfl (Y_move rfl) ?_
      refine TF_gy rfl rfl rfl rfl (Y_field_addr rfl) ?_
      refine TF_gy rfl rfl rfl rfl (Y_load rfl rfl) ?_
      refine TF_gy rfl rfl rfl rfl (Y_lt rfl rfl) ?_
      refine TF_y rfl rfl (Y_pick_f rfl rfl) ?_
      refine TF_y rfl rfl (Y_move rfl) ?_
      refine TF_splitd 47 rfl (fun h47 => ?_) (fun h47 => ?_)
      · refine TF_gskip rfl rfl rfl rfl rfl ?_
        refine TF_gskip rfl rfl rfl rfl rfl ?_
        refine TF_gskip rfl rfl rfl rfl rfl ?_
        refine TF_gskip rfl rfl rfl rfl rfl ?_
        refine TF_gskip rfl rfl rfl rfl rfl ?_
        refine TF_gskip rfl rfl rfl rfl rfl ?_
        refine TF_gskip rfl rfl rfl rfl rfl ?_
        refine TF_gskip rfl rfl rfl rfl rfl ?_
        refine TF_gskip rfl rfl rfl rfl rfl ?_
        refine TF_gskip rfl rfl rfl rfl rfl ?_
        refine TF_gskip rfl rfl rfl rfl rfl ?_
        refine TF_gskip rfl rfl rfl rfl rfl ?_
        refine TF_gskip rfl rfl rfl rfl rfl ?_
        refine TF_y rfl rfl (Y_pick_t rfl rfl) ?_
        refine TF_nil ?_
        refine T_cond_true rfl ?_
        refine T_region ?_
        refine TL_y rfl rfl (Y_assign rfl) ?_
        refine TL_nil ?_
        refine T_ret ?_
        refine thenS_ret ?_
        refine inB_ret ?_
        refine thenS_ret ?_
        refine thenS_ret ?_
        refine inB_ret ?_
        refine thenS_ret ?_
        have hnc := not_crash2 (s := s) ht (by rintro ⟨e2, h1, h2⟩; rw [hc2] at h1; cases h1; exact hc3 h2)
        rw [if_neg hnc, if_neg hnc]
        refine RetQ.gives (f_back (A := A9) (c := c9) hi.inc he) ?_
        refine RetQ.gives (dk_close b bt s hi) ?_
        exact RetG_1 (.inl rfl) rfl (ResV.tmp rfl) GivesTo.g (⟨rfl, rfl⟩)
      · refine TF_gy rfl rfl rfl rfl (Y_field_addr rfl) ?_
        refine TF_gy rfl rfl rfl rfl (Y_load rfl rfl) ?_
        refine TF_gy rfl rfl rfl rfl (Y_move rfl) ?_
        refine TF_gy rfl rfl rfl rfl (Y_nil_check rfl) ?_
        refine TF_gy rfl rfl rfl rfl (Y_field_addr rfl) ?_
        refine TF_gy rfl rfl rfl rfl (Y_load rfl rfl) ?_
        refine TF_gy rfl rfl rfl rfl (Y_len rfl) ?_
        refine TF_gy rfl rfl rfl rfl (Y_move rfl) ?_
        refine TF_gy rfl rfl rfl rfl (Y_nil_check rfl) ?_
        refine TF_gy rfl rfl rfl rfl (Y_field_addr rfl) ?_
        refine TF_gy rfl rfl rfl rfl (Y_load rfl rfl) ?_
        refine TF_gy rfl rfl rfl rfl (Y_sub rfl rfl (by omega)) ?_
        refine TF_gy rfl rfl rfl rfl (Y_gt rfl rfl) ?_
        refine TF_name 60 (v' := .bool true) rfl (congrArg Value.bool (decide_eq_true (by omega))) ?_
        refine TF_y rfl rfl (Y_pick_f rfl rfl) ?_
        refine TF_nil ?_
        refine T_cond_true rfl ?_
        refine T_region ?_
        refine TL_y rfl rfl (Y_assign rfl) ?_
        refine TL_nil ?_
        refine T_ret ?_
        refine thenS_ret ?_
        refine inB_ret ?_
        refine thenS_ret ?_
        refine thenS_ret ?_
        refine inB_ret ?_
        refine thenS_ret ?_
        have hnc := not_crash2 (s := s) ht (by rintro ⟨e2, h1, h2⟩; rw [hc2] at h1; cases h1; exact hc3 h2)
        rw [if_neg hnc, if_neg hnc]
        refine RetQ.gives (f_back (A := A9) (c := c9) hi.inc he) ?_
        refine RetQ.gives (dk_close b bt s hi) ?_
        exact RetG_1 (.inl rfl) rfl (ResV.tmp rfl) GivesTo.g (⟨rfl, rfl⟩)
    · obtain ⟨he, hen⟩ := findF_mem hc2
      have hoe := hi.ok e he
      have hte := tot_mem he
      rw [show fptr s.l t.1 = .pointer (some ⟨e.blk, 0, none⟩) by unfold fptr; rw [hc2]; rfl]
      refine T_fout hi.inc he fun A9 c9 => ?_
      refine T_region_draw _ [0, 1, 3, 7, 15, 31, 63, 127, 255, 511, 1023, 2047, 4095, 2047, 10239, 26623, 59391, 124927, 2047, 264191, 788479, 1837055, 4188159, 8388607, 16777215] [] [(0, true), (1, true), (2, true), (3, true), (4, true), (5, true), (6, true), (7, true), (8, true), (9, true), (10, true), (11, true), (12, true), (13, true), (14, true), (15, true), (16, true), (17, true), (18, true), (19, true), (20, true), (21, true), (22, true), (23, true), (24, true)] (by kernel_rfl) (by decide +kernel) (Gives.refl _) ?_
      refine TF_y rfl rfl (Y_move rfl) ?_
      refine TF_name 37 (v' := .bool false) rfl (congrArg Value.bool (by rw [hc1]; rfl)) ?_
      refine TF_y rfl rfl (Y_move rfl) ?_
      refine TF_gy rfl rfl rfl rfl (Y_move rfl) ?_
      refine TF_gy rfl rfl rfl rfl (Y_equal rfl rfl (EqIs.ptr_nil)) ?_
      refine TF_name 40 (v' := .bool false) rfl (by simp) ?_
      refine TF_y rfl rfl (Y_pick_f rfl rfl) ?_
      refine TF_y rfl rfl (Y_move rfl) ?_
      refine TF_gy rfl rfl rfl rfl (Y_field_addr rfl) ?_
      refine TF_gy rfl rfl rfl rfl (Y_load rfl rfl) ?_
      refine TF_gy rfl rfl rfl rfl (Y_lt rfl rfl) ?_
      refine TF_name 45 (v' := .bool false) rfl (congrArg Value.bool (decide_eq_false (by omega))) ?_
      refine TF_y rfl rfl (Y_pick_f rfl rfl) ?_
      refine TF_y rfl rfl (Y_move rfl) ?_
      refine TF_gy rfl rfl rfl rfl (Y_field_addr rfl) ?_
      refine TF_gy rfl rfl rfl rfl (Y_load rfl rfl) ?_
      refine TF_gy rfl rfl rfl rfl (Y_move rfl) ?_
      refine TF_gy rfl rfl rfl rfl (Y_nil_check rfl) ?_
      refine TF_gy rfl rfl rfl rfl (Y_field_addr rfl) ?_
      refine TF_gy rfl rfl rfl rfl (Y_load rfl rfl) ?_
      refine TF_gy rfl rfl rfl rfl (Y_len rfl) ?_
      refine TF_gy rfl rfl rfl rfl (Y_move rfl) ?_
      refine TF_gy rfl rfl rfl rfl (Y_nil_check rfl) ?_
      refine TF_gy rfl rfl rfl rfl (Y_field_addr rfl) ?_
      refine TF_gy rfl rfl rfl rfl (Y_load rfl rfl) ?_
      refine TF_gy rfl rfl rfl rfl (Y_sub rfl rfl (by omega)) ?_
      refine TF_gy rfl rfl rfl rfl (Y_gt rfl rfl) ?_
      refine TF_name 60 (v' := .bool false) rfl (congrArg Value.bool (decide_eq_false (by omega))) ?_
      refine TF_y rfl rfl (Y_pick_f rfl rfl) ?_
      refine TF_nil ?_
      refine T_cond_false rfl ?_
      refine T_skip ?_
      refine thenS_normal ?_
      refine T_gives (f_back (A := A9) (c := c9) hi.inc he) ?_
      refine T_region_last ?_
      refine TL_y rfl rfl (Y_move rfl) ?_
      refine TL_y rfl rfl (Y_field_addr rfl) ?_
      refine TL_y rfl rfl (Y_load rfl rfl) ?_
      refine TL_y rfl rfl (Y_field_addr rfl) ?_
      refine TL_y rfl rfl (Y_load rfl rfl) ?_
      refine TL_update (R := intR .i64) (k := t.1) (u := t.2) (cs := [.int .i64 t.2]) (keep.take (i + 1)) rfl rfl rfl hto.1 (Knows.const fun _ => ⟨rfl, hto.2⟩) (by rw [htk, del_noneM hc1]; exact (List.perm_append_singleton t _).symm) ?_
      refine TL_nil ?_
      refine inB_normal ?_
      refine thenS_normal ?_
      refine T_region_last ?_
      refine TL_y rfl rfl (Y_add rfl rfl (by omega)) ?_
      refine TL_name 67 (v' := .int .i64 ((i + 1 : Nat) : Int)) rfl (rfl) ?_
      refine TL_y rfl rfl (Y_move rfl) ?_
      refine TL_nil ?_
      refine thenS_normal ?_
      exact ⟨i + 1, ⟨by omega, by rw [htk]; exact crash_snoc hco hc1 ⟨e, hc2, hc3⟩⟩, by omega, holds_to (sub_cons rfl (sub_cons rfl (sub_cons rfl (sub_cons rfl (sub_cons rfl (sub_nil)))))) GivesTo.g⟩
  · refine T_exit ?_
    refine thenS_exit ?_
    refine thenS_exit ?_
    refine inB_hit ?_
    refine thenS_normal ?_
    refine T_seq ?_
    have hck : crashOk s keep := by have := hco; rwa [List.take_of_length_le (by omega)] at this
    rw [List.take_of_length_le (show keep.length ≤ i by omega)]
    refine T_region ?_
    refine TL_y rfl rfl (Y_move rfl) ?_
    refine TL_y rfl rfl (Y_nil_check rfl) ?_
    refine TL_y rfl rfl (Y_field_addr rfl) ?_
    refine TL_y rfl rfl (Y_load rfl rfl) ?_
    refine TL_range rfl rfl ?_
    intro it
    refine TL_nil ?_
    refine T_block ?_
    refine T_loopK (σ := List (ByteArray × Nat)) [0, 5, 72] (fun done => True) (fun done kv => kv) (fun done => mrange strK fpR false bt it (fmap s.l) done :: cells b [.map (some bt), .int .i64 (s.size - (totF (lD keep s.l done) : Int)), .int .i64 s.calls] 51 :: allH ((lD keep s.l done).map fH) :: omap strK (intR .i64) false bk keep :: L) (fun done => (fmap s.l).length - done.length) ([]) rfl (trivial) ((by rw [lD_nil, show s.size - (totF s.l : Int) = leftK s from rfl]; exact GivesTo.g)) (sub_cons rfl (sub_cons rfl (sub_cons rfl (sub_nil)))) ?_
    rintro done -
    refine T_region ?_
    refine TL_next rfl rfl (fun hp => ?_) (fun q1 cs1 hq hd1 hlt => ?_)
    · refine TL_y rfl rfl (Y_extract rfl rfl) ?_
      refine TL_name 74 (v' := .bool false) rfl (rfl) ?_
      refine TL_nil ?_
      refine T_seq ?_
      refine T_cond_false rfl ?_
      refine T_exit ?_
      refine thenS_exit ?_
      refine thenS_exit ?_
      refine inB_hit ?_
      refine thenS_normal ?_
      have hall : ∀ e ∈ s.l, e.name ∈ dnm done := fun e he => by have := (hp.map (fun q : ByteArray × Nat => q.1)).mem_iff.2 (List.mem_map.2 ⟨(e.name, e.blk), List.mem_map.2 ⟨e, he, rfl⟩, rfl⟩); exact this
      rw [lD_all hall]
      refine T_gives (endr it) ?_
      refine T_region ?_
      refine TL_y rfl rfl (Y_move rfl) ?_
      refine TL_y rfl rfl (Y_nil_check rfl) ?_
      refine TL_y rfl rfl (Y_field_addr rfl) ?_
      refine TL_store rfl rfl rfl rfl rfl rfl ?_
      refine TL_nil ?_
      refine T_region ?_
      refine TL_y rfl rfl (Y_assign rfl) ?_
      refine TL_nil ?_
      refine T_ret ?_
      rw [if_pos hck, if_pos hck, show crashK s keep = ⟨s.size, -1, s.l.map (cutE keep)⟩ from rfl]
      refine RetQ.gives (dk_close2 b bt ⟨s.size, -1, s.l.map (cutE keep)⟩ (n := s.size - (totF (s.l.map (cutE keep)) : Int)) (m := fmap s.l) rfl (fmap_map _ (fun _ => rfl) (fun _ => rfl)) (show KI ⟨s.size, -1, s.l.map (cutE keep)⟩ from hi.crash hck)) ?_
      exact RetG_1 (.inl rfl) rfl (ResV.tmp rfl) GivesTo.g (⟨rfl, rfl⟩)
    · refine TL_y rfl rfl (Y_extract rfl rfl) ?_
      refine TL_name 74 (v' := .bool true) rfl (rfl) ?_
      refine TL_nil ?_
      refine T_seq ?_
      refine T_cond_true rfl ?_
      refine T_skip ?_
      refine thenS_normal ?_
      refine T_block ?_
      refine T_region ?_
      refine TL_entry_v rfl rfl ?_
      intro ok75 _
      refine TL_y rfl rfl (Y_extract rfl rfl) ?_
      refine TL_y rfl rfl (Y_extract rfl rfl) ?_
      refine TL_y rfl rfl (Y_assign rfl) ?_
      refine TL_y rfl rfl (Y_assign rfl) ?_
      refine TL_nil ?_
      obtain ⟨e, he, heq⟩ := List.mem_map.1 hq
      subst heq
      dsimp only at hd1 ok75 ⊢
      have hnd : e.name ∉ dnm done := fun hm => by obtain ⟨q, hq1, hq2⟩ := List.mem_map.1 hm; exact hd1 q hq1 hq2
      have hke := kpt_ok hi hck he
      have hoe := hi.ok e he
      have hte := tot_mem he
      have hle := lD_le keep s.l done
      have hlt2 := lD_tot hi hck he hnd
      refine T_fout (lD_inc (keep := keep) hi.inc done) (lD_mem (keep := keep) he hnd) fun A16 c16 => ?_
      refine T_region_draw_last (cells e.blk [.slice A16 e.bytes.length c16, .int .i64 e.synced] 67 :: omap strK (intR .i64) false bk keep :: []) [0, 0, 0, 4, 12, 28, 0, 0, 192, 508, 1023] [10] [(0, true), (1, true), (2, true), (3, true), (4, true), (5, true), (6, true), (7, true), (8, true), (9, true), (10, false)] (by kernel_rfl) (by decide +kernel) GivesTo.g ?_
      refine TF_y rfl rfl (Y_move rfl) ?_
      refine TF_y rfl rfl (Y_move rfl) ?_
      refine TF_y rfl rfl (Y_move rfl) ?_
      refine TF_y rfl rfl (Y_nil_check rfl) ?_
      refine TF_y rfl rfl (Y_field_addr rfl) ?_
      refine TF_y rfl rfl (Y_load rfl rfl) ?_
      refine TF_y rfl rfl (Y_move rfl) ?_
      refine TF_y rfl rfl (Y_move rfl) ?_
      refine TF_y rfl rfl (Y_lookup (k := e.name) rfl rfl ok75) ?_
      refine TF_name 86 (v' := .int .i64 (kpt keep e.name)) rfl (by unfold kpt; cases getM keep e.name <;> rfl) ?_
      refine TF_y rfl rfl (Y_add rfl rfl (by omega)) ?_
      refine TF_anchor rfl ?_
      refine TL_gives (show Gives _ (cells b [.map (some bt), .int .i64 (s.size - (totF (lD keep s.l done) : Int)), .int .i64 s.calls] 51 :: cells e.blk [.slice A16 e.bytes.length c16, .int .i64 e.synced] 67 :: osl (intR .u8) 5 A16 c16 e.bytes :: allH ((delF (lD keep s.l done) e.name).map fH) :: mrange strK fpR false bt it (fmap s.l) (done ++ [(e.name, e.blk)]) :: omap strK (intR .i64) false bk keep :: L) from GivesTo.g) ?_
      refine TL_call rfl rfl (cutRaw_spec (e := e) (n := e.synced + kpt keep e.name) (by omega) (by omega) (by omega)) ?_
      rintro _ _ ⟨rfl, A88, c88, rfl⟩
      rw [show s.size - (totF (lD keep s.l done) : Int) + ((e.bytes.length : Int) - (e.synced + kpt keep e.name)) = s.size - (totF (lD keep s.l (done ++ [(e.name, e.blk)])) : Int) by omega]
      refine TL_gives (show Gives _ (cells e.blk [.slice A88 (e.bytes.take (e.synced + kpt keep e.name).toNat).length c88, .int .i64 (e.synced + kpt keep e.name)] 67 :: osl (intR .u8) 5 A88 c88 (e.bytes.take (e.synced + kpt keep e.name).toNat) :: allH ((delF (lD keep s.l done) e.name).map fH) :: cells b [.map (some bt), .int .i64 (s.size - (totF (lD keep s.l (done ++ [(e.name, e.blk)])) : Int)), .int .i64 s.calls] 51 :: mrange strK fpR false bt it (fmap s.l) (done ++ [(e.name, e.blk)]) :: omap strK (intR .i64) false bk keep :: L) from GivesTo.g) ?_
      refine TL_gives (cr_in hi.inc he hnd) ?_
      refine TF_end_tail rfl ?_
      refine TF_nil ?_
      refine inB_normal ?_
      refine thenS_normal ?_
      exact ⟨done ++ [(e.name, e.blk)], trivial, by rw [List.length_append]; simp only [List.length_cons, List.length_nil]; omega, holds_to (sub_cons rfl (sub_cons rfl (sub_cons rfl (sub_nil)))) GivesTo.g⟩
end Go.SL
set_option linter.unusedVariables false
set_option linter.unusedSimpArgs false
namespace Go.SL
open Go Go.Proofs
theorem file_eq {a b : FileD} : a = b ↔ a.name = b.name ∧ a.bytes = b.bytes ∧ a.synced = b.synced := by cases a; cases b; simp
instance : DecidableEq FileD := fun a b => decidable_of_iff _ file_eq.symm
theorem file_guard : Try.prog.eqGuardType Try.prog.depth 40 = false := by kernel_rfl
theorem file_held : Try.prog.stoodInHeld 40 = false := by kernel_rfl
theorem file_eq0 (dd : Nat) (w : World) (a b : FileD) : (Op.equalIn (dd + 2) 40 (fileV a) (fileV b)).run Try.prog w = .ok (decide (a = b)) w := by
  have hn : ∀ x y, (Op.equalIn (dd + 1) 3 (.int .i64 x) (.int .i64 y)).run Try.prog w = .ok (decide (x = y)) w := fun x y => EqIs.int (k := .i64) dd w
  have hs : ∀ x y, (Op.equalIn (dd + 1) 9 (.string x) (.string y)).run Try.prog w = .ok (decide (x = y)) w := fun x y => EqIs.str dd w
  generalize hdd : dd + 1 = d1 at hn hs
  have : dd + 2 = d1 + 1 := by omega
  rw [this]
  simp [Op.equalIn, Try.runUnderlying40, file_held, part, Try.isAgg3, Try.isAgg9, hn, hs]
  by_cases h1 : a.name = b.name <;> by_cases h2 : a.bytes = b.bytes <;> by_cases h3 : a.synced = b.synced <;> simp [h1, h2, h3, file_eq]
section
variable {E : Env} {L : List HP} {ty : TypeId}
theorem file_eq1 (w : World) (a b : FileD) : (Op.equal 40 (fileV a) (fileV b)).run Try.prog w = .ok (decide (a = b)) w := file_eq0 9998 w a b
theorem Y_eq_file {x y : Operand} {t' : TypeId} {a b : FileD} (hx : ev E x = some (fileV a)) (hy : ev E y = some (fileV b)) : Yl Try.prog E L (.binOp .eql 40 x y t') ty (.bool (decide (a = b))) := fun n D W ac w dst pos af g hv hs => by
  have h3 : ∀ xs ys : Array Value, Go.binOp .eql 40 (.agg xs) (.agg ys) = (do Pure.pure (Value.bool (← Op.equal 40 (.agg xs) (.agg ys))) : Sem Value) := fun xs ys => by simp only [Go.binOp]
  simp only [execOp, hv.ev hx, hv.ev hy, eqGuard, h3]
  simp [file_guard, file_eq1]
theorem Y_ne_file {x y : Operand} {t' : TypeId} {a b : FileD} (hx : ev E x = some (fileV a)) (hy : ev E y = some (fileV b)) : Yl Try.prog E L (.binOp .neq 40 x y t') ty (.bool (decide (a ≠ b))) := fun n D W ac w dst pos af g hv hs => by
  have h3 : ∀ xs ys : Array Value, Go.binOp .neq 40 (.agg xs) (.agg ys) = (do Pure.pure (Value.bool (!(← Op.equal 40 (.agg xs) (.agg ys)))) : Sem Value) := fun xs ys => by simp only [Go.binOp]
  simp only [execOp, hv.ev hx, hv.ev hy, eqGuard, h3]
  simp [file_guard, file_eq1]
end
abbrev nmA : ByteArray := ⟨#[97]⟩
theorem nmA_ok : isName nmA := by decide +kernel
theorem kz_1 (k : Nat) : appendK (dkNew 9) nmA [120, 121] k = (⟨9, -1, [⟨nmA, k, [120, 121], 0⟩]⟩, 0) := by
  unfold appendK
  rw [if_neg (Classical.not_not.2 nmA_ok), if_neg (by decide), if_neg (by simp [leftK, dkNew, totF])]
  rfl
theorem kz_2 (k : Nat) : syncK ⟨9, -1, [⟨nmA, k, [120, 121], 0⟩]⟩ nmA = (⟨9, -1, [⟨nmA, k, [120, 121], 2⟩]⟩, 0) := by rfl
theorem kz_3 (k k2 : Nat) : appendK ⟨9, -1, [⟨nmA, k, [120, 121], 2⟩]⟩ nmA [122, 122] k2 = (⟨9, -1, [⟨nmA, k, [120, 121, 122, 122], 2⟩]⟩, 0) := by
  unfold appendK
  rw [if_neg (Classical.not_not.2 nmA_ok), if_neg (by simp [offK]), if_neg (by simp [leftK, totF, findF])]
  rfl
abbrev kz3 (k : Nat) : DkS := ⟨9, -1, [⟨nmA, k, [120, 121, 122, 122], 2⟩]⟩
abbrev kpA : List TornD := [(nmA, 1)]
theorem kz_c (k : Nat) : crashOk (kz3 k) kpA := ⟨by simp, fun t ht => by simp at ht; subst ht; exact ⟨_, rfl, by decide, by show (1 : Int) ≤ 4 - 2; decide⟩⟩
theorem kz_4 (k : Nat) : crashK (kz3 k) kpA = ⟨9, -1, [⟨nmA, k, [120, 121, 122], 3⟩]⟩ := by rfl
theorem cells_two {k : IntKind} {a b : Int} (ha : intIn k a) (hb : intIn k b) : ∀ M, CellsOf M (intR k) [a, b] [.int k a, .int k b] := fun M => ⟨[.int k a], [.int k b], ⟨rfl, ha⟩, ⟨[.int k b], [], ⟨rfl, hb⟩, rfl, rfl⟩, rfl⟩
theorem lives03_spec (L : List HP) : Fn Try.prog 6 #[] L (fun v L' => v = .bool true ∧ L' = L) := by
  refine Fn_enter Try.func6 rfl rfl rfl rfl ?_
  refine T_region ?_
  refine TL_y rfl rfl (Y_assign rfl) ?_
  refine TL_nil ?_
  refine T_region ?_
  refine TL_call rfl rfl (diskNew_ok 9 (by decide) _) ?_
  rintro _ _ ⟨b8, bt8, rfl, rfl⟩
  refine TL_y rfl rfl (Y_move rfl) ?_
  refine TL_y rfl rfl (Y_extract rfl rfl) ?_
  refine TL_y rfl rfl (Y_extract rfl rfl) ?_
  refine TL_y rfl rfl (Y_assign rfl) ?_
  refine TL_y rfl rfl (Y_assign rfl) ?_
  refine TL_nil ?_
  refine T_seq ?_
  refine T_region ?_
  refine TL_y rfl rfl (Y_move rfl) ?_
  refine TL_y rfl rfl (Y_ne rfl rfl) ?_
  refine TL_name 12 (v' := .bool false) rfl (congrArg Value.bool (by decide)) ?_
  refine TL_y rfl rfl (Y_move rfl) ?_
  refine TL_grun rfl rfl ?_
  refine TL_y rfl rfl (Y_move rfl) ?_
  refine TL_grun rfl rfl ?_
  refine TL_y rfl rfl (Y_equal rfl rfl (EqIs.ptr_nil)) ?_
  refine TL_name 15 (v' := .bool false) rfl (by simp) ?_
  refine TL_y rfl rfl (Y_pick_f rfl rfl) ?_
  refine TL_y rfl rfl (Y_move rfl) ?_
  refine TL_grun rfl rfl ?_
  refine TL_y rfl rfl (Y_move rfl) ?_
  refine TL_grun rfl rfl ?_
  refine TL_build_slice rfl rfl rfl rfl rfl rfl ?_
  intro b19
  refine TL_grun rfl rfl ?_
  refine TL_conv_mark (b := b19) (vs := [.int .u8 120, .int .u8 121]) (xs := [120, 121]) rfl rfl (cells_two (by decide) (by decide)) (by decide) (by decide) ?_
  refine TL_grun rfl rfl ?_
  refine TL_pullk b8 ?_
  refine TL_call rfl rfl (diskAppend_spec nmA (by decide) sln (by decide) (by decide)) ?_
  rintro _ _ ⟨k1, rfl, rfl⟩
  rw [kz_1]
  refine TL_grun rfl rfl ?_
  refine TL_y rfl rfl (Y_ne rfl rfl) ?_
  refine TL_name 22 (v' := .bool false) rfl (congrArg Value.bool (by simp)) ?_
  refine TL_y rfl rfl (Y_pick_f rfl rfl) ?_
  refine TL_y rfl rfl (Y_move rfl) ?_
  refine TL_grun rfl rfl ?_
  refine TL_y rfl rfl (Y_move rfl) ?_
  refine TL_grun rfl rfl ?_
  refine TL_pullk b8 ?_
  refine TL_call rfl rfl (diskSync_spec nmA (by decide)) ?_
  rintro _ _ ⟨rfl, rfl⟩
  rw [kz_2]
  refine TL_grun rfl rfl ?_
  refine TL_y rfl rfl (Y_ne rfl rfl) ?_
  refine TL_name 27 (v' := .bool false) rfl (congrArg Value.bool (by simp)) ?_
  refine TL_y rfl rfl (Y_pick_f rfl rfl) ?_
  refine TL_y rfl rfl (Y_move rfl) ?_
  refine TL_grun rfl rfl ?_
  refine TL_y rfl rfl (Y_move rfl) ?_
  refine TL_grun rfl rfl ?_
  refine TL_build_slice rfl rfl rfl rfl rfl rfl ?_
  intro b31
  refine TL_grun rfl rfl ?_
  refine TL_conv_mark (b := b31) (vs := [.int .u8 122, .int .u8 122]) (xs := [122, 122]) rfl rfl (cells_two (by decide) (by decide)) (by decide) (by decide) ?_
  refine TL_grun rfl rfl ?_
  refine TL_pullk b8 ?_
  refine TL_call rfl rfl (diskAppend_spec nmA (by decide) (sln (A := some ⟨b31, 0, none⟩) (c := 2) (xs := ([122, 122] : List Int))) (by decide) (by decide)) ?_
  rintro _ _ ⟨k2, rfl, rfl⟩
  rw [kz_3]
  refine TL_grun rfl rfl ?_
  refine TL_y rfl rfl (Y_ne rfl rfl) ?_
  refine TL_name 34 (v' := .bool false) rfl (congrArg Value.bool (by simp)) ?_
  refine TL_y rfl rfl (Y_pick_f rfl rfl) ?_
  refine TL_nil ?_
  refine T_cond_false rfl ?_
  refine T_skip ?_
  refine thenS_normal ?_
  refine T_region ?_
  refine TL_y rfl rfl (Y_move rfl) ?_
  refine TL_pullk b8 ?_
  refine TL_call rfl rfl (diskFiles_spec (s := kz3 k1)) ?_
  rintro _ _ ⟨A37, c37, rfl, rfl⟩
  refine TL_freeze_osl ?_
  rw [show (kz3 k1).l.map viewF = [⟨nmA, ⟨#[120, 121, 122, 122]⟩, 2⟩] from rfl]
  refine TL_y rfl rfl (Y_assign rfl) ?_
  refine TL_nil ?_
  refine T_region ?_
  refine TL_y rfl rfl (Y_move rfl) ?_
  refine TL_y rfl rfl (Y_build rfl rfl) ?_
  refine TL_build_slice rfl rfl rfl rfl rfl rfl ?_
  intro b40
  refine TL_osl (k := 1) tornR [((nmA, 1) : TornD)] (Knows.const fun M => ⟨tornC (nmA, 1), [], ⟨rfl, by decide, by decide⟩, rfl, rfl⟩) rfl (by decide) ?_
  refine TL_freeze_osl ?_
  refine TL_name 40 (v' := .slice (some ⟨b40, 0, none⟩) kpA.length 1) rfl rfl ?_
  refine TL_pullk b8 ?_
  refine TL_call rfl rfl (diskCrash_spec (s := kz3 k1) (keep := kpA) sln) ?_
  rintro _ _ ⟨rfl, rfl⟩
  rw [if_pos (kz_c k1), if_pos (kz_c k1), kz_4]
  refine TL_y rfl rfl (Y_assign rfl) ?_
  refine TL_nil ?_
  refine T_region ?_
  refine TL_y rfl rfl (Y_move rfl) ?_
  refine TL_pullk b8 ?_
  refine TL_call rfl rfl (diskRead_spec nmA (by decide)) ?_
  rintro _ _ ⟨rfl, rfl⟩
  rw [show findF (⟨9, -1, [⟨nmA, k1, [120, 121, 122], 3⟩]⟩ : DkS).l nmA = some ⟨nmA, k1, [120, 121, 122], 3⟩ from rfl]
  refine TL_y rfl rfl (Y_move rfl) ?_
  refine TL_y rfl rfl (Y_extract rfl rfl) ?_
  refine TL_y rfl rfl (Y_extract rfl rfl) ?_
  refine TL_y rfl rfl (Y_assign rfl) ?_
  refine TL_y rfl rfl (Y_assign rfl) ?_
  refine TL_nil ?_
  refine T_addr_n (sln (A := A37) (c := c37) (R := fileR) (xs := [⟨nmA, ⟨#[120, 121, 122, 122]⟩, 2⟩])) (j := 0) rfl fun bq oq eq => ?_
  subst eq
  refine T_region ?_
  refine TL_y rfl rfl (Y_move rfl) ?_
  refine TL_y rfl rfl (Y_len rfl) ?_
  refine TL_y rfl rfl (Y_eq rfl rfl) ?_
  refine TL_name 49 (v' := .bool true) rfl (by simp) ?_
  refine TL_y rfl rfl (Y_move rfl) ?_
  refine TL_grun rfl rfl ?_
  refine TL_y rfl rfl (Y_move rfl) ?_
  refine TL_grun rfl rfl ?_
  refine TL_y rfl rfl (Y_index_n (R := fileR) (xs := [⟨nmA, ⟨#[120, 121, 122, 122]⟩, 2⟩]) rfl rfl rfl rfl) ?_
  refine TL_grun rfl rfl ?_
  refine TL_y rfl rfl (Y_load_naf (R := fileR) (c := c37) (xs := [⟨nmA, ⟨#[120, 121, 122, 122]⟩, 2⟩]) (q := 0) (vs := fileC ⟨nmA, ⟨#[120, 121, 122, 122]⟩, 2⟩) rfl sln rfl rfl) ?_
  refine TL_grun rfl rfl ?_
  refine TL_y rfl rfl (Y_build rfl rfl) ?_
  refine TL_name 54 (v' := fileV ⟨nmA, ⟨#[120, 121, 122, 122]⟩, 2⟩) rfl (rfl) ?_
  refine TL_grun rfl rfl ?_
  refine TL_y rfl rfl (Y_eq_file rfl rfl) ?_
  refine TL_name 55 (v' := .bool true) rfl (congrArg Value.bool (decide_eq_true rfl)) ?_
  refine TL_y rfl rfl (Y_pick_t rfl rfl) ?_
  refine TL_y rfl rfl (Y_move rfl) ?_
  refine TL_grun rfl rfl ?_
  refine TL_y rfl rfl (Y_move rfl) ?_
  refine TL_grun rfl rfl ?_
  refine TL_y rfl rfl (Y_eq rfl rfl) ?_
  refine TL_name 59 (v' := .bool true) rfl (by simp) ?_
  refine TL_y rfl rfl (Y_pick_t rfl rfl) ?_
  refine TL_y rfl rfl (Y_move rfl) ?_
  refine TL_grun rfl rfl ?_
  refine TL_y rfl rfl (Y_move rfl) ?_
  refine TL_grun rfl rfl ?_
  refine TL_y rfl rfl (Y_str_eq rfl rfl) ?_
  refine TL_name 63 (v' := .bool true) rfl (congrArg Value.bool (decide_eq_true rfl)) ?_
  refine TL_y rfl rfl (Y_pick_t rfl rfl) ?_
  refine TL_y rfl rfl (Y_move rfl) ?_
  refine TL_grun rfl rfl ?_
  refine TL_y rfl rfl (Y_move rfl) ?_
  refine TL_grun rfl rfl ?_
  refine TL_y rfl rfl (Y_eq rfl rfl) ?_
  refine TL_name 67 (v' := .bool true) rfl (by simp) ?_
  refine TL_y rfl rfl (Y_pick_t rfl rfl) ?_
  refine TL_y rfl rfl (Y_move rfl) ?_
  refine TL_grun rfl rfl ?_
  refine TL_y rfl rfl (Y_move rfl) ?_
  refine TL_grun rfl rfl ?_
  refine TL_pullk b8 ?_
  refine TL_call rfl rfl (diskLeft_spec) ?_
  rintro _ _ ⟨rfl, rfl⟩
  refine TL_grun rfl rfl ?_
  refine TL_y rfl rfl (Y_eq rfl rfl) ?_
  refine TL_name 72 (v' := .bool true) rfl (congrArg Value.bool (decide_eq_true rfl)) ?_
  refine TL_y rfl rfl (Y_pick_t rfl rfl) ?_
  refine TL_y rfl rfl (Y_assign rfl) ?_
  refine TL_nil ?_
  refine T_ret ?_
  exact RetG_1 (.inl rfl) rfl (ResV.tmp rfl) GivesTo.g (⟨rfl, rfl⟩)
end Go.SL
set_option linter.unusedVariables false
set_option linter.unusedSimpArgs false
namespace Go.SL
open Go Go.Proofs
theorem insW_true {α : Type} {p : α → Bool} {x y : α} {l : List α} (h : p y = true) : insW p x (y :: l) = y :: insW p x l := by simp [insW, posW, h]
theorem insW_all {α : Type} {p : α → Bool} {x : α} {l : List α} (h : ∀ q ∈ l, p q = false) : insW p x l = x :: l := by
  have : posW p l = 0 := posW_eq (Nat.zero_le _) (by simp) fun q hq => h q (List.mem_of_getElem? hq)
  simp [insW, this]
theorem posW_map {α β : Type} {p : β → Bool} {f : α → β} : ∀ l : List α, posW p (l.map f) = posW (fun x => p (f x)) l
  | [] => rfl
  | x :: r => by simp only [List.map_cons, posW]; rw [posW_map r]
theorem insW_map {α β : Type} {p : β → Bool} {f : α → β} (x : α) (l : List α) : insW p (f x) (l.map f) = (insW (fun x => p (f x)) x l).map f := by
  unfold insW
  rw [posW_map]
  simp [List.map_take, List.map_drop]
theorem set_putF : ∀ {l : List FileE} {i : Nat} {e e' : FileE}, IncF l → l[i]? = some e → e'.name = e.name → l.set i e' = putF l e'
  | [], i, e, e', _, h, _ => by simp at h
  | x :: r, 0, e, e', hi, h, hn => by
    obtain ⟨h1, h2⟩ := List.pairwise_cons.1 hi
    simp at h
    subst h
    have hd : delF (x :: r) e'.name = r := by
      unfold delF
      rw [List.filter_cons, if_neg (by simp [hn])]
      exact List.filter_eq_self.2 fun q hq => by
        have := h1 q hq
        simp only [Bool.not_eq_true', decide_eq_false_iff_not]
        rintro e2; rw [e2, hn] at this; exact ltN_irr _ this
    unfold putF
    rw [hd, insW_all fun q hq => ?_]
    · rfl
    · have := h1 q hq
      rw [← hn] at this
      cases hlt : ltN q.name e'.name with
      | false => rfl
      | true => exact absurd (ltN_trans this hlt) (ltN_irr _)
  | x :: r, i + 1, e, e', hi, h, hn => by
    obtain ⟨h1, h2⟩ := List.pairwise_cons.1 hi
    simp at h
    have hx := h1 e (List.mem_of_getElem? h)
    have ih := set_putF h2 h hn
    have hd : delF (x :: r) e'.name = x :: delF r e'.name := by
      unfold delF
      rw [List.filter_cons, if_pos]
      simp only [Bool.not_eq_true', decide_eq_false_iff_not]
      rintro e2; rw [e2, hn] at hx; exact ltN_irr _ hx
    rw [List.set_cons_succ, ih]
    unfold putF
    rw [hd, insW_true (by rw [hn]; exact hx)]
theorem erase_delF : ∀ {l : List FileE} {i : Nat} {e : FileE}, IncF l → l[i]? = some e → l.take i ++ l.drop (i + 1) = delF l e.name
  | [], i, e, _, h => by simp at h
  | x :: r, 0, e, hi, h => by
    obtain ⟨h1, h2⟩ := List.pairwise_cons.1 hi
    simp at h
    subst h
    unfold delF
    rw [List.filter_cons, if_neg (by simp)]
    simp only [List.take_zero, List.drop_succ_cons, List.drop_zero, List.nil_append]
    exact (List.filter_eq_self.2 fun q hq => by
      have := h1 q hq
      simp only [Bool.not_eq_true', decide_eq_false_iff_not]
      rintro e2; rw [e2] at this; exact ltN_irr _ this).symm
  | x :: r, i + 1, e, hi, h => by
    obtain ⟨h1, h2⟩ := List.pairwise_cons.1 hi
    simp at h
    have hx := h1 e (List.mem_of_getElem? h)
    have ih := erase_delF h2 h
    unfold delF at ih ⊢
    rw [List.filter_cons, if_pos, ← ih]
    · simp
    · simp only [Bool.not_eq_true', decide_eq_false_iff_not]
      rintro e2; rw [e2] at hx; exact ltN_irr _ hx
abbrev VF (s : DkS) : List FileD := s.l.map viewF
def totD (l : List FileD) : Nat := (l.map fun f => f.bytes.size).sum
theorem totD_view (l : List FileE) : totD (l.map viewF) = totF l := by
  unfold totD totF
  rw [List.map_map]
  congr 1
  exact List.map_congr_left fun e _ => str_size e.bytes
theorem totD_snoc {l : List FileD} {i : Nat} {f : FileD} (h : l[i]? = some f) : totD (l.take (i + 1)) = totD (l.take i) + f.bytes.size := by
  unfold totD
  rw [takeAt h, List.map_append, List.sum_append]; simp
theorem totD_take (l : List FileD) (i : Nat) : totD (l.take i) ≤ totD l := by
  have : totD l = totD (l.take i) + totD (l.drop i) := by
    conv => lhs; rw [← List.take_append_drop i l]
    unfold totD; rw [List.map_append, List.sum_append]
  omega
/-- The document's disk in memory. -/
structure RkP where
  A : Option Addr
  c : Nat
  ca : Int
abbrev rkC (b : Nat) (sz : Int) (A : Option Addr) (n c : Nat) (st : Bool) (ca : Int) : HP := cells b [.int .i64 sz, .slice A n c, .bool st, .int .i64 ca] 36
abbrev rkOk (s : DkS) (ca : Int) : Prop := KI s ∧ intIn .i64 ca ∧ (s.calls ≠ -1 → ca = s.calls)
abbrev rkF (b : Nat) (s : DkS) (p : RkP) : List HP := [rkC b s.size p.A (VF s).length p.c (decide (s.calls ≠ -1)) p.ca, osl fileR 40 p.A p.c (VF s), pure (rkOk s p.ca)]
def rk (b : Nat) (s : DkS) : HP := exH (rkF b s)
instance findK_rk {L : List HP} {b : Nat} {s : DkS} : FindK (rk b s :: L) b (rk b s) L := ⟨Gives.refl _⟩
section
variable {r : Option Nat} {n : Nat} {P : Program} {ops : Array Oper} {rest : List Oper} {K : St → Prop} {Q : Exit → St → Prop} {D : List Deferred} {E : Env} {L L' : List HP} {b : Nat} {s : DkS}
theorem rk_pure {p : RkP} : Gives (rkF b s p ++ L) (pure (rkOk s p.ca) :: rkC b s.size p.A (VF s).length p.c (decide (s.calls ≠ -1)) p.ca :: osl fileR 40 p.A p.c (VF s) :: L) := Gives.pull 2 (rkF b s p ++ L)
theorem T_rk {c : Code} (h : ∀ A c' ca, rkOk s ca → T r n P c ⟨D, E, rkC b s.size A (VF s).length c' (decide (s.calls ≠ -1)) ca :: osl fileR 40 A c' (VF s) :: L⟩ Q) : T r n P c ⟨D, E, rk b s :: L⟩ Q := T_exH (f := rkF b s) fun p => T_gives rk_pure (T_fact (Knows.head' (p := pure (rkOk s p.ca)) (φ := fun _ => rkOk s p.ca) fun M k h => h) (fun _ h => h) fun hp => T_gives (Gives.drop _ _) (h p.A p.c p.ca hp))
theorem T_rk' {c : Code} (h : KI s → T r n P c ⟨D, E, rk b s :: L⟩ Q) : T r n P c ⟨D, E, rk b s :: L⟩ Q := fun W a w hh => by
  obtain ⟨M, k, hd, hM, hk, h1, h2, hd', l1, l2, ⟨p, hp⟩, hs⟩ := hh.2.ex
  obtain ⟨a1, a2, ad, b1, b2, ha, a3, a4, ae, b3, b4, hb, a5, a6, af, b5, b6, hc, he⟩ := hp
  exact h hc.1 W a w hh
theorem T_rkI {c : Code} (h : KI s → T r n P c ⟨D, E, rk b s :: L⟩ Q) : T r n P c ⟨D, E, rk b s :: L⟩ Q := T_rk' fun hk => h hk
theorem rk_close {A : Option Addr} {c : Nat} {ca : Int} {L1 L2 : List HP} (b : Nat) (s : DkS) [h1 : FindC L b [.int .i64 s.size, .slice A (VF s).length c, .bool (decide (s.calls ≠ -1)), .int .i64 ca] 36 L1] [h2 : FindO L1 A c FileD fileR 40 (VF s) L2] (ho : rkOk s ca) : Gives L (rk b s :: L2) := by
  refine Gives.trans (h1.g.trans (Gives.cons _ h2.g)) ?_
  refine Gives.trans ?_ (exH_close (f := rkF b s) ⟨A, c, ca⟩)
  exact Gives.cons _ (Gives.cons _ (Gives.pure_intro ho))
end
/-- The call is counted. -/
theorem rk_done {s : DkS} {ca : Int} (h : KI s) (hca : intIn .i64 ca) (hcc : s.calls ≠ -1 → ca = s.calls) (ho : ¬ offK s) : rkOk (doneK s) (if s.calls ≠ -1 then ca - 1 else ca) ∧ decide ((doneK s).calls ≠ -1) = decide (s.calls ≠ -1) := by
  have h1 := h.calls.1
  have h2 := i64In hca
  unfold offK at ho
  refine ⟨⟨h.done, ?_, ?_⟩, ?_⟩
  · split
    · exact i64In_mk (by have := hcc (by assumption); omega)
    · exact hca
  · unfold doneK; dsimp only
    intro hd
    by_cases hm : s.calls ≠ -1
    · rw [if_pos hm, hcc hm, if_pos (by omega)]
    · rw [if_neg (by omega)] at hd; exact absurd hd hm
  · unfold doneK; dsimp only
    refine decide_eq_decide.2 ?_
    split <;> omega
/-! ### Another disk with the same files -/
theorem views_eq {a b : List FileE} (ha : IncF a) (hb : IncF b) (h : ∀ f, f ∈ a.map viewF ↔ f ∈ b.map viewF) : a.map viewF = b.map viewF := by
  have pa : (a.map viewF).Pairwise fun p q => ltN p.name q.name = true := List.pairwise_map.2 (ha.imp fun h => h)
  have pb : (b.map viewF).Pairwise fun p q => ltN p.name q.name = true := List.pairwise_map.2 (hb.imp fun h => h)
  have na : (a.map viewF).Nodup := pa.imp fun {x y} hxy (e : x = y) => ltN_irr y.name (by rw [e] at hxy; exact hxy)
  have nb : (b.map viewF).Nodup := pb.imp fun {x y} hxy (e : x = y) => ltN_irr y.name (by rw [e] at hxy; exact hxy)
  exact ((List.perm_ext_iff_of_nodup na nb).2 h).eq_of_pairwise (fun x y _ _ h1 h2 => absurd (ltN_trans h1 h2) (ltN_irr _)) pa pb
structure FkI (l : List FileE) (done : List ByteArray) (m : List FileE) : Prop where
  inc : IncF m
  sub : ∀ x ∈ m, ∃ e ∈ l, e.name ∈ done ∧ x.name = e.name ∧ x.bytes = e.bytes ∧ x.synced = e.synced
  all : ∀ e ∈ l, e.name ∈ done → ∃ x ∈ m, x.name = e.name ∧ x.bytes = e.bytes ∧ x.synced = e.synced
theorem FkI.nil (l : List FileE) : FkI l [] [] := ⟨List.Pairwise.nil, (fun x hx => by cases hx), (fun e _ h => by cases h)⟩
theorem FkI.put {l m : List FileE} {done : List ByteArray} {e : FileE} (h : FkI l done m) (hl : IncF l) (he : e ∈ l) (blk : Nat) : FkI l (done ++ [e.name]) (putF m ⟨e.name, blk, e.bytes, e.synced⟩) := by
  refine ⟨h.inc.put _, fun x hx => ?_, fun e2 h2 hd => ?_⟩
  · rcases mem_putF.1 hx with rfl | ⟨hx, _⟩
    · exact ⟨e, he, by simp, rfl, rfl, rfl⟩
    · obtain ⟨y, h1, h3, h4⟩ := h.sub x hx
      exact ⟨y, h1, List.mem_append_left _ h3, h4⟩
  · by_cases hn : e2.name = e.name
    · have := hl.inj h2 he hn
      subst this
      exact ⟨_, mem_putF.2 (.inl rfl), rfl, rfl, rfl⟩
    · rcases List.mem_append.1 hd with hd | hd
      · obtain ⟨x, h1, h3, h4⟩ := h.all e2 h2 hd
        exact ⟨x, mem_putF.2 (.inr ⟨h1, by rw [h3]; exact hn⟩), h3, h4⟩
      · exact absurd (List.mem_singleton.1 hd) hn
theorem FkI.none {l m : List FileE} {done : List ByteArray} {k : ByteArray} (h : FkI l done m) (hk : k ∉ done) : findF m k = none := findF_none.2 fun x hx e => by
  obtain ⟨y, _, h2, h3, _⟩ := h.sub x hx
  rw [← e, h3] at hk; exact hk h2
theorem FkI.view {l m : List FileE} {done : List ByteArray} (h : FkI l done m) (hl : IncF l) (hall : ∀ e ∈ l, e.name ∈ done) : m.map viewF = l.map viewF := views_eq h.inc hl fun f => by
  rw [List.mem_map, List.mem_map]
  constructor
  · rintro ⟨x, hx, rfl⟩
    obtain ⟨e, he, _, h1, h2, h3⟩ := h.sub x hx
    exact ⟨e, he, by unfold viewF; rw [h1, h2, h3]⟩
  · rintro ⟨e, he, rfl⟩
    obtain ⟨x, hx, h1, h2, h3⟩ := h.all e he (hall e he)
    exact ⟨x, hx, by unfold viewF; rw [h1, h2, h3]⟩
theorem FkI.ki {s : DkS} {m : List FileE} {done : List ByteArray} (h : FkI s.l done m) (hi : KI s) (hall : ∀ e ∈ s.l, e.name ∈ done) : KI ⟨s.size, s.calls, m⟩ := by
  have hv := h.view hi.inc hall
  have hlen : m.length = s.l.length := by have := congrArg List.length hv; simpa using this
  refine ⟨hi.size, hi.calls, h.inc, by dsimp only; rw [hlen]; exact hi.len, ?_, fun x hx => ?_⟩
  · dsimp only
    rw [← totD_view m, hv, totD_view]; exact hi.tot
  · obtain ⟨e, he, _, h1, h2, h3⟩ := h.sub x hx
    have := hi.ok e he
    rw [h1, h2, h3]; exact this
theorem rk_same {b : Nat} {s t : DkS} {L : List HP} (h1 : t.size = s.size) (h2 : t.calls = s.calls) (h3 : VF t = VF s) (ht : KI t) : Gives (rk b s :: L) (rk b t :: L) := fun M m hh => by
  obtain ⟨k1, k2, hd, l1, l2, ⟨p, hp⟩, hs⟩ := hh
  refine ⟨k1, k2, hd, l1, l2, ⟨p, ?_⟩, hs⟩
  have hF : rkF b t p = [rkC b s.size p.A (VF s).length p.c (decide (s.calls ≠ -1)) p.ca, osl fileR 40 p.A p.c (VF s), pure (rkOk t p.ca)] := by
    show [rkC b t.size p.A (VF t).length p.c (decide (t.calls ≠ -1)) p.ca, osl fileR 40 p.A p.c (VF t), pure (rkOk t p.ca)] = _
    rw [h1, h2, h3]
  rw [hF]
  obtain ⟨a1, a2, ad, b1, b2, ha, a3, a4, ae, b3, b4, hb, a5, a6, af, b5, b6, hc, he⟩ := hp
  exact ⟨a1, a2, ad, b1, b2, ha, a3, a4, ae, b3, b4, hb, a5, a6, af, b5, b6, ⟨ht, hc.2.1, by rw [h2]; exact hc.2.2⟩, he⟩
end Go.SL
set_option linter.unusedVariables false
set_option linter.unusedSimpArgs false
namespace Go.SL
open Go Go.Proofs
theorem rkNew_bad (n : Int) (h : ¬ (0 ≤ n ∧ n ≤ 268435456)) (L : List HP) : Fn Try.prog 10 #[.int .i64 n] L (fun v L' => v = .tuple #[.pointer none, .int .i64 1] ∧ L' = L) := by
  refine Fn_enter Try.func10 rfl rfl rfl rfl ?_
  refine T_region ?_
  refine TL_y rfl rfl (Y_assign rfl) ?_
  refine TL_y rfl rfl (Y_assign rfl) ?_
  refine TL_nil ?_
  refine T_seq ?_
  refine Classical.byCases (p := n < 0) (fun hc => ?_) (fun hc => ?_)
  · refine T_region ?_
    refine TL_y rfl rfl (Y_move rfl) ?_
    refine TL_y rfl rfl (Y_lt rfl rfl) ?_
    refine TL_name 5 (v' := .bool true) rfl (congrArg Value.bool (decide_eq_true hc)) ?_
    refine TL_y rfl rfl (Y_move rfl) ?_
    refine TL_gskip rfl rfl rfl rfl ?_
    refine TL_gskip rfl rfl rfl rfl ?_
    refine TL_y rfl rfl (Y_pick_t rfl rfl) ?_
    refine TL_nil ?_
    refine T_cond_true rfl ?_
    refine T_region ?_
    refine TL_y rfl rfl (Y_assign rfl) ?_
    refine TL_y rfl rfl (Y_assign rfl) ?_
    refine TL_nil ?_
    refine T_ret ?_
    refine thenS_ret ?_
    exact RetG_2 (.inl rfl) rfl (ResV.tmp rfl) (ResV.tmp rfl) GivesTo.g (⟨rfl, rfl⟩)
  · refine T_region ?_
    refine TL_y rfl rfl (Y_move rfl) ?_
    refine TL_y rfl rfl (Y_lt rfl rfl) ?_
    refine TL_name 5 (v' := .bool false) rfl (congrArg Value.bool (decide_eq_false hc)) ?_
    refine TL_y rfl rfl (Y_move rfl) ?_
    refine TL_grun rfl rfl ?_
    refine TL_y rfl rfl (Y_move rfl) ?_
    refine TL_grun rfl rfl ?_
    refine TL_y rfl rfl (Y_gt rfl rfl) ?_
    refine TL_name 8 (v' := .bool true) rfl (congrArg Value.bool (decide_eq_true (by omega))) ?_
    refine TL_y rfl rfl (Y_pick_f rfl rfl) ?_
    refine TL_nil ?_
    refine T_cond_true rfl ?_
    refine T_region ?_
    refine TL_y rfl rfl (Y_assign rfl) ?_
    refine TL_y rfl rfl (Y_assign rfl) ?_
    refine TL_nil ?_
    refine T_ret ?_
    refine thenS_ret ?_
    exact RetG_2 (.inl rfl) rfl (ResV.tmp rfl) (ResV.tmp rfl) GivesTo.g (⟨rfl, rfl⟩)
theorem rkNew_ok (n : Int) (h : 0 ≤ n ∧ n ≤ 268435456) (L : List HP) : Fn Try.prog 10 #[.int .i64 n] L (fun v L' => ∃ b, v = .tuple #[.pointer (some ⟨b, 0, none⟩), .int .i64 0] ∧ L' = rk b (dkNew n) :: L) := by
  refine Fn_enter Try.func10 rfl rfl rfl rfl ?_
  refine T_region ?_
  refine TL_y rfl rfl (Y_assign rfl) ?_
  refine TL_y rfl rfl (Y_assign rfl) ?_
  refine TL_nil ?_
  refine T_seq ?_
  refine T_region ?_
  refine TL_y rfl rfl (Y_move rfl) ?_
  refine TL_y rfl rfl (Y_lt rfl rfl) ?_
  refine TL_name 5 (v' := .bool false) rfl (congrArg Value.bool (decide_eq_false (by omega))) ?_
  refine TL_y rfl rfl (Y_move rfl) ?_
  refine TL_grun rfl rfl ?_
  refine TL_y rfl rfl (Y_move rfl) ?_
  refine TL_grun rfl rfl ?_
  refine TL_y rfl rfl (Y_gt rfl rfl) ?_
  refine TL_name 8 (v' := .bool false) rfl (congrArg Value.bool (decide_eq_false (by omega))) ?_
  refine TL_y rfl rfl (Y_pick_f rfl rfl) ?_
  refine TL_nil ?_
  refine T_cond_false rfl ?_
  refine T_skip ?_
  refine thenS_normal ?_
  refine T_region ?_
  refine TL_y rfl rfl (Y_move rfl) ?_
  refine TL_y rfl rfl (Y_build rfl rfl) ?_
  refine TL_box rfl rfl rfl ?_
  intro b12
  refine TL_gives (Gives.trans (Gives.trans (osl_nil fileR 40 none _) (Gives.swap _ _ _)) (show Gives _ (rk b12 (dkNew n) :: L) from rk_close (A := none) (c := 0) (ca := 0) b12 (dkNew n) ⟨dkNew_I h, by decide, fun hh => absurd rfl hh⟩)) ?_
  refine TL_y rfl rfl (Y_assign rfl) ?_
  refine TL_y rfl rfl (Y_assign rfl) ?_
  refine TL_nil ?_
  refine T_ret ?_
  exact RetG_2 (.inl rfl) rfl (ResV.tmp rfl) (ResV.tmp rfl) GivesTo.g (⟨b12, rfl, rfl⟩)
theorem rkOff_spec {L : List HP} {b : Nat} {s : DkS} : Fn Try.prog 40 #[.pointer (some ⟨b, 0, none⟩)] (rk b s :: L) (fun v L' => v = .bool (decide (offK s)) ∧ L' = rk b s :: L) := by
  refine Fn_enter Try.func40 rfl rfl rfl rfl ?_
  refine T_rk fun A c ca hok => ?_
  refine T_region ?_
  refine TL_y rfl rfl (Y_assign rfl) ?_
  refine TL_nil ?_
  refine Classical.byCases (p := s.calls ≠ -1) (fun hc => ?_) (fun hc => ?_)
  · refine T_region ?_
    refine TL_y rfl rfl (Y_move rfl) ?_
    refine TL_y rfl rfl (Y_nil_check rfl) ?_
    refine TL_y rfl rfl (Y_field_addr rfl) ?_
    refine TL_y rfl rfl (Y_load rfl rfl) ?_
    refine TL_name 6 (v' := .bool true) rfl (congrArg Value.bool (decide_eq_true hc)) ?_
    refine TL_y rfl rfl (Y_move rfl) ?_
    refine TL_grun rfl rfl ?_
    refine TL_y rfl rfl (Y_move rfl) ?_
    refine TL_grun rfl rfl ?_
    refine TL_y rfl rfl (Y_nil_check rfl) ?_
    refine TL_grun rfl rfl ?_
    refine TL_y rfl rfl (Y_field_addr rfl) ?_
    refine TL_grun rfl rfl ?_
    refine TL_y rfl rfl (Y_load rfl rfl) ?_
    refine TL_grun rfl rfl ?_
    refine TL_y rfl rfl (Y_eq rfl rfl) ?_
    refine TL_y rfl rfl (Y_pick_t rfl rfl) ?_
    refine TL_y rfl rfl (Y_assign rfl) ?_
    refine TL_nil ?_
    refine T_ret ?_
    refine RetQ.gives (rk_close (A := A) (c := c) (ca := ca) b s hok) ?_
    exact RetG_1 (.inl rfl) rfl (ResV.tmp rfl) GivesTo.g (⟨congrArg Value.bool (decide_eq_decide.2 (by unfold offK; rw [hok.2.2 hc])), rfl⟩)
  · refine T_region ?_
    refine TL_y rfl rfl (Y_move rfl) ?_
    refine TL_y rfl rfl (Y_nil_check rfl) ?_
    refine TL_y rfl rfl (Y_field_addr rfl) ?_
    refine TL_y rfl rfl (Y_load rfl rfl) ?_
    refine TL_name 6 (v' := .bool false) rfl (congrArg Value.bool (decide_eq_false hc)) ?_
    refine TL_y rfl rfl (Y_move rfl) ?_
    refine TL_gskip rfl rfl rfl rfl ?_
    refine TL_gskip rfl rfl rfl rfl ?_
    refine TL_gskip rfl rfl rfl rfl ?_
    refine TL_gskip rfl rfl rfl rfl ?_
    refine TL_gskip rfl rfl rfl rfl ?_
    refine TL_y rfl rfl (Y_pick_f rfl rfl) ?_
    refine TL_y rfl rfl (Y_assign rfl) ?_
    refine TL_nil ?_
    refine T_ret ?_
    refine RetQ.gives (rk_close (A := A) (c := c) (ca := ca) b s hok) ?_
    exact RetG_1 (.inl rfl) rfl (ResV.tmp rfl) GivesTo.g (⟨congrArg Value.bool (decide_eq_false (by unfold offK; omega)).symm, rfl⟩)
theorem rkStop_spec {L : List HP} {b : Nat} {s : DkS} (n : Int) (hn : intIn .i64 n) : Fn Try.prog 27 #[.pointer (some ⟨b, 0, none⟩), .int .i64 n] (rk b s :: L) (fun v L' => v = .tuple #[] ∧ L' = rk b (stopK s n) :: L) := by
  refine Fn_enter Try.func27 rfl rfl rfl rfl ?_
  refine T_region ?_
  refine TL_y rfl rfl (Y_move rfl) ?_
  refine TL_call rfl rfl (rkOff_spec) ?_
  rintro _ _ ⟨rfl, rfl⟩
  refine TL_y rfl rfl (Y_not rfl) ?_
  refine TL_nil ?_
  refine T_cond rfl (fun h6 => ?_) (fun h6 => ?_)
  · have ho : ¬ offK s := (by simpa using h6)
    refine T_rk fun A c ca hok => ?_
    refine T_region_last ?_
    refine TL_y rfl rfl (Y_move rfl) ?_
    refine TL_y rfl rfl (Y_move rfl) ?_
    refine TL_y rfl rfl (Y_move rfl) ?_
    refine TL_y rfl rfl (Y_ge rfl rfl) ?_
    refine TL_name 10 (v' := .bool (decide (max n (-1) ≠ -1))) rfl (by congr 1; exact decide_eq_decide.2 (by omega)) ?_
    refine TL_y rfl rfl (Y_move rfl) ?_
    refine TL_y rfl rfl (Y_nil_check rfl) ?_
    refine TL_y rfl rfl (Y_field_addr rfl) ?_
    refine TL_store rfl rfl rfl rfl rfl rfl ?_
    refine TL_y rfl rfl (Y_nil_check rfl) ?_
    refine TL_y rfl rfl (Y_field_addr rfl) ?_
    refine TL_store rfl rfl rfl rfl rfl rfl ?_
    refine TL_nil ?_
    rw [show stopK s n = ⟨s.size, max n (-1), s.l⟩ by unfold stopK; rw [if_neg ho]]
    refine RetQ.gives (rk_close (A := A) (c := c) (ca := n) b ⟨s.size, max n (-1), s.l⟩ ⟨by have := hok.1.stop hn; unfold stopK at this; rwa [if_neg ho] at this, hn, fun hh => by dsimp only at hh ⊢; omega⟩) ?_
    exact RetG_0 (.inr rfl) rfl GivesTo.g (⟨rfl, rfl⟩)
  · have ho : offK s := by simpa using h6
    refine T_skip ?_
    rw [show stopK s n = s by unfold stopK; rw [if_pos ho]]
    exact RetG_0 (.inr rfl) rfl GivesTo.g (⟨rfl, rfl⟩)
theorem rkDid_spec {L : List HP} {b c n : Nat} {A : Option Addr} {ca : Int} (s : DkS) (h : KI s) (hca : intIn .i64 ca) (hcc : s.calls ≠ -1 → ca = s.calls) (ho : ¬ offK s) : Fn Try.prog 45 #[.pointer (some ⟨b, 0, none⟩)] (rkC b s.size A n c (decide (s.calls ≠ -1)) ca :: L) (fun v L' => v = .int .i64 0 ∧ L' = rkC b s.size A n c (decide ((doneK s).calls ≠ -1)) (if s.calls ≠ -1 then ca - 1 else ca) :: L) := by
  have hd := rk_done h hca hcc ho
  have h1 := h.calls.1
  have h2 := i64In hca
  unfold offK at ho
  refine Fn_enter Try.func45 rfl rfl rfl rfl ?_
  refine T_region ?_
  refine TL_y rfl rfl (Y_assign rfl) ?_
  refine TL_nil ?_
  refine T_seq ?_
  refine Classical.byCases (p := s.calls ≠ -1) (fun hc => ?_) (fun hc => ?_)
  · refine T_region ?_
    refine TL_y rfl rfl (Y_move rfl) ?_
    refine TL_y rfl rfl (Y_nil_check rfl) ?_
    refine TL_y rfl rfl (Y_field_addr rfl) ?_
    refine TL_y rfl rfl (Y_load rfl rfl) ?_
    refine TL_name 6 (v' := .bool true) rfl (congrArg Value.bool (decide_eq_true hc)) ?_
    refine TL_nil ?_
    refine T_cond_true rfl ?_
    refine T_region_last ?_
    refine TL_y rfl rfl (Y_move rfl) ?_
    refine TL_y rfl rfl (Y_nil_check rfl) ?_
    refine TL_y rfl rfl (Y_field_addr rfl) ?_
    refine TL_y rfl rfl (Y_load rfl rfl) ?_
    refine TL_y rfl rfl (Y_sub rfl rfl (by have := hcc hc; omega)) ?_
    refine TL_y rfl rfl (Y_nil_check rfl) ?_
    refine TL_y rfl rfl (Y_field_addr rfl) ?_
    refine TL_store rfl rfl rfl rfl rfl rfl ?_
    refine TL_nil ?_
    refine thenS_normal ?_
    refine T_region ?_
    refine TL_y rfl rfl (Y_assign rfl) ?_
    refine TL_nil ?_
    refine T_ret ?_
    rw [hd.2]
    rw [if_pos hc]
    exact RetG_1 (.inl rfl) rfl (ResV.tmp rfl) GivesTo.g (⟨rfl, rfl⟩)
  · refine T_region ?_
    refine TL_y rfl rfl (Y_move rfl) ?_
    refine TL_y rfl rfl (Y_nil_check rfl) ?_
    refine TL_y rfl rfl (Y_field_addr rfl) ?_
    refine TL_y rfl rfl (Y_load rfl rfl) ?_
    refine TL_name 6 (v' := .bool false) rfl (congrArg Value.bool (decide_eq_false hc)) ?_
    refine TL_nil ?_
    refine T_cond_false rfl ?_
    refine T_skip ?_
    refine thenS_normal ?_
    refine T_region ?_
    refine TL_y rfl rfl (Y_assign rfl) ?_
    refine TL_nil ?_
    refine T_ret ?_
    rw [hd.2]
    rw [if_neg hc]
    exact RetG_1 (.inl rfl) rfl (ResV.tmp rfl) GivesTo.g (⟨rfl, rfl⟩)
theorem rkFind_spec {L : List HP} {b c : Nat} {A : Option Addr} {sz ca : Int} {st : Bool} {fl : List FileD} (k : ByteArray) : Fn Try.prog 43 #[.pointer (some ⟨b, 0, none⟩), .string k] (rkC b sz A fl.length c st ca :: osl fileR 40 A c fl :: L) (fun v L' => (∃ r : Int, v = .int .i64 r ∧ ((r < 0 ∧ ∀ f ∈ fl, f.name ≠ k) ∨ ∃ (i : Nat) (f : FileD), r = (i : Int) ∧ fl[i]? = some f ∧ f.name = k)) ∧ L' = rkC b sz A fl.length c st ca :: osl fileR 40 A c fl :: L) := by
  refine Fn_enter Try.func43 rfl rfl rfl rfl ?_
  refine SlN.lens (sln (A := A) (c := c) (R := fileR) (xs := fl)) fun hl => ?_
  simp only [maxEl] at hl
  refine T_region ?_
  refine TL_y rfl rfl (Y_assign rfl) ?_
  refine TL_nil ?_
  refine T_seq ?_
  refine T_region ?_
  refine TL_y rfl rfl (Y_assign rfl) ?_
  refine TL_nil ?_
  refine T_block ?_
  refine T_loopK (σ := Nat) [0, 1] (fun i => i ≤ fl.length ∧ ∀ f ∈ fl.take i, f.name ≠ k) (fun i kv => (5, .int .i64 (i : Int)) :: kv) (fun i => rkC b sz A fl.length c st ca :: osl fileR 40 A c fl :: L) (fun i => fl.length - i) (0) rfl (⟨Nat.zero_le _, by simp⟩) (GivesTo.g) (sub_cons rfl (sub_cons rfl (sub_cons rfl (sub_nil)))) ?_
  intro i hi
  refine T_seq ?_
  refine T_region ?_
  refine TL_y rfl rfl (Y_move rfl) ?_
  refine TL_y rfl rfl (Y_move rfl) ?_
  refine TL_y rfl rfl (Y_nil_check rfl) ?_
  refine TL_y rfl rfl (Y_field_addr rfl) ?_
  refine TL_y rfl rfl (Y_load rfl rfl) ?_
  refine TL_y rfl rfl (Y_len rfl) ?_
  refine TL_y rfl rfl (Y_lt rfl rfl) ?_
  refine TL_nil ?_
  refine T_if rfl (fun h12 => ?_) (fun h12 => ?_)
  · refine T_skip ?_
    refine thenS_normal ?_
    refine T_seq ?_
    refine T_block ?_
    obtain ⟨f, hf⟩ : ∃ f, fl[i]? = some f := ⟨_, List.getElem?_eq_getElem (by omega)⟩
    refine T_region ?_
    refine TL_y rfl rfl (Y_move rfl) ?_
    refine TL_y rfl rfl (Y_nil_check rfl) ?_
    refine TL_y rfl rfl (Y_field_addr rfl) ?_
    refine TL_y rfl rfl (Y_load rfl rfl) ?_
    refine TL_y rfl rfl (Y_move rfl) ?_
    refine TL_index_n rfl rfl rfl (rfl) ((sln (A := A) (c := c) (R := fileR) (xs := fl))) (hf) ?_
    intro bn20 on20 hA20 hk20
    have hu20 := hf
    refine TL_y rfl rfl (Y_field_addr2 rfl) ?_
    refine TL_y rfl rfl (Y_load_n rfl hk20 hu20 rfl) ?_
    refine TL_y rfl rfl (Y_move rfl) ?_
    refine TL_y rfl rfl (Y_str_eq rfl rfl) ?_
    refine TL_nil ?_
    refine T_if rfl (fun h24 => ?_) (fun h24 => ?_)
    · refine T_region ?_
      refine TL_y rfl rfl (Y_move rfl) ?_
      refine TL_y rfl rfl (Y_assign rfl) ?_
      refine TL_nil ?_
      refine T_ret ?_
      refine inB_ret ?_
      refine thenS_ret ?_
      refine thenS_ret ?_
      refine inB_ret ?_
      refine thenS_ret ?_
      exact RetG_1 (.inl rfl) rfl (ResV.tmp rfl) GivesTo.g (⟨⟨_, rfl, .inr ⟨i, f, rfl, hf, h24⟩⟩, rfl⟩)
    · refine T_skip ?_
      refine inB_normal ?_
      refine thenS_normal ?_
      refine T_region_last ?_
      refine TL_y rfl rfl (Y_move rfl) ?_
      refine TL_y rfl rfl (Y_add rfl rfl (by omega)) ?_
      refine TL_name 14 (v' := .int .i64 ((i + 1 : Nat) : Int)) rfl (rfl) ?_
      refine TL_y rfl rfl (Y_assign rfl) ?_
      refine TL_nil ?_
      refine thenS_normal ?_
      exact ⟨i + 1, ⟨by omega, by rw [takeAt hf]; intro q hq; rcases List.mem_append.1 hq with h | h; exact hi.2 q h; (rw [List.mem_singleton.1 h]; exact h24)⟩, by omega, holds_to (sub_cons rfl (sub_cons rfl (sub_cons rfl (sub_nil)))) GivesTo.g⟩
  · refine T_exit ?_
    refine thenS_exit ?_
    refine thenS_exit ?_
    refine inB_hit ?_
    refine thenS_normal ?_
    refine T_region ?_
    refine TL_y rfl rfl (Y_assign rfl) ?_
    refine TL_nil ?_
    refine T_ret ?_
    exact RetG_1 (.inl rfl) rfl (ResV.tmp rfl) GivesTo.g (⟨⟨_, rfl, .inl ⟨by omega, by have := hi.2; rwa [List.take_of_length_le (by omega)] at this⟩⟩, rfl⟩)
theorem rkLeft_spec {L : List HP} {b c : Nat} {A : Option Addr} {sz ca : Int} {st : Bool} {fl : List FileD} (hsz : 0 ≤ sz ∧ sz ≤ 268435456) (ht : (totD fl : Int) ≤ 1000000000) : Fn Try.prog 39 #[.pointer (some ⟨b, 0, none⟩)] (rkC b sz A fl.length c st ca :: osl fileR 40 A c fl :: L) (fun v L' => v = .int .i64 (sz - (totD fl : Int)) ∧ L' = rkC b sz A fl.length c st ca :: osl fileR 40 A c fl :: L) := by
  refine Fn_enter Try.func39 rfl rfl rfl rfl ?_
  refine SlN.lens (sln (A := A) (c := c) (R := fileR) (xs := fl)) fun hl => ?_
  simp only [maxEl] at hl
  refine T_region ?_
  refine TL_y rfl rfl (Y_assign rfl) ?_
  refine TL_nil ?_
  refine T_region ?_
  refine TL_y rfl rfl (Y_move rfl) ?_
  refine TL_y rfl rfl (Y_nil_check rfl) ?_
  refine TL_y rfl rfl (Y_field_addr rfl) ?_
  refine TL_y rfl rfl (Y_load rfl rfl) ?_
  refine TL_y rfl rfl (Y_assign rfl) ?_
  refine TL_nil ?_
  refine T_seq ?_
  refine T_region ?_
  refine TL_y rfl rfl (Y_assign rfl) ?_
  refine TL_nil ?_
  refine T_block ?_
  refine T_loopK (σ := Nat) [0] (fun i => i ≤ fl.length) (fun i kv => (4, .int .i64 (i : Int)) :: (3, .int .i64 (sz - (totD (fl.take i) : Int))) :: kv) (fun i => rkC b sz A fl.length c st ca :: osl fileR 40 A c fl :: L) (fun i => fl.length - i) (0) rfl (Nat.zero_le _) (GivesTo.g) (sub_cons rfl (sub_cons ((by simp [totD]; rfl)) (sub_cons rfl (sub_nil)))) ?_
  intro i hi
  refine T_seq ?_
  refine T_region ?_
  refine TL_y rfl rfl (Y_move rfl) ?_
  refine TL_y rfl rfl (Y_move rfl) ?_
  refine TL_y rfl rfl (Y_nil_check rfl) ?_
  refine TL_y rfl rfl (Y_field_addr rfl) ?_
  refine TL_y rfl rfl (Y_load rfl rfl) ?_
  refine TL_y rfl rfl (Y_len rfl) ?_
  refine TL_y rfl rfl (Y_lt rfl rfl) ?_
  refine TL_nil ?_
  refine T_if rfl (fun h15 => ?_) (fun h15 => ?_)
  · refine T_skip ?_
    refine thenS_normal ?_
    refine T_seq ?_
    refine T_block ?_
    obtain ⟨f, hf⟩ : ∃ f, fl[i]? = some f := ⟨_, List.getElem?_eq_getElem (by omega)⟩
    have hts := totD_snoc hf
    have ht1 := totD_take fl i
    have ht2 := totD_take fl (i + 1)
    refine T_region_last ?_
    refine TL_y rfl rfl (Y_move rfl) ?_
    refine TL_y rfl rfl (Y_move rfl) ?_
    refine TL_y rfl rfl (Y_nil_check rfl) ?_
    refine TL_y rfl rfl (Y_field_addr rfl) ?_
    refine TL_y rfl rfl (Y_load rfl rfl) ?_
    refine TL_y rfl rfl (Y_move rfl) ?_
    refine TL_index_n rfl rfl rfl (rfl) ((sln (A := A) (c := c) (R := fileR) (xs := fl))) (hf) ?_
    intro bn24 on24 hA24 hk24
    have hu24 := hf
    refine TL_y rfl rfl (Y_field_addr2 rfl) ?_
    refine TL_y rfl rfl (Y_load_n rfl hk24 hu24 rfl) ?_
    refine TL_y rfl rfl (Y_len_str rfl) ?_
    refine TL_y rfl rfl (Y_sub rfl rfl (by omega)) ?_
    refine TL_name 28 (v' := .int .i64 (sz - (totD (fl.take (i + 1)) : Int))) rfl (by congr 1; omega) ?_
    refine TL_y rfl rfl (Y_assign rfl) ?_
    refine TL_nil ?_
    refine inB_normal ?_
    refine thenS_normal ?_
    refine T_region_last ?_
    refine TL_y rfl rfl (Y_move rfl) ?_
    refine TL_y rfl rfl (Y_add rfl rfl (by omega)) ?_
    refine TL_name 17 (v' := .int .i64 ((i + 1 : Nat) : Int)) rfl (rfl) ?_
    refine TL_y rfl rfl (Y_assign rfl) ?_
    refine TL_nil ?_
    refine thenS_normal ?_
    exact ⟨i + 1, (by omega), by omega, holds_to (sub_cons rfl (sub_cons rfl (sub_cons rfl (sub_nil)))) GivesTo.g⟩
  · refine T_exit ?_
    refine thenS_exit ?_
    refine thenS_exit ?_
    refine inB_hit ?_
    refine thenS_normal ?_
    refine T_region ?_
    refine TL_y rfl rfl (Y_move rfl) ?_
    refine TL_y rfl rfl (Y_assign rfl) ?_
    refine TL_nil ?_
    refine T_ret ?_
    rw [List.take_of_length_le (show fl.length ≤ i by omega)]
    exact RetG_1 (.inl rfl) rfl (ResV.tmp rfl) GivesTo.g (⟨rfl, rfl⟩)
def putD3 (fl : List FileD) (f : FileD) : List FileD := insW (fun q : FileD => ltN q.name f.name) f fl
theorem file_rep {f : FileD} (h : fileOk f) : ∀ M, fileR.rep M f (fileC f) := fun _ => ⟨rfl, h⟩
theorem rkPut_spec {L : List HP} {b c : Nat} {A : Option Addr} {sz ca : Int} {st : Bool} {fl : List FileD} (f : FileD) (ho : fileOk f) (hlen : fl.length ≤ 1000) : Fn Try.prog 44 #[.pointer (some ⟨b, 0, none⟩), fileV f] (rkC b sz A fl.length c st ca :: osl fileR 40 A c fl :: L) (fun v L' => ∃ A' c', v = .tuple #[] ∧ L' = rkC b sz A' (putD3 fl f).length c' st ca :: osl fileR 40 A' c' (putD3 fl f) :: L) := by
  refine Fn_enter Try.func44 rfl rfl rfl rfl ?_
  refine SlN.lens (sln (A := A) (c := c) (R := fileR) (xs := fl)) fun hlc => ?_
  simp only [maxEl] at hlc
  refine T_region ?_
  refine TL_box rfl rfl rfl ?_
  intro b3
  refine TL_nil ?_
  refine T_region ?_
  refine TL_y rfl rfl (Y_assign rfl) ?_
  refine TL_nil ?_
  refine T_seq ?_
  refine T_block ?_
  refine T_loopK (σ := Nat) [0, 3] (fun k => k ≤ fl.length ∧ ∀ q ∈ fl.take k, ltN q.name f.name = true) (fun k kv => (4, .int .i64 (k : Int)) :: kv) (fun k => rkC b sz A fl.length c st ca :: osl fileR 40 A c fl :: cells b3 (fileC f) 40 :: L) (fun k => fl.length - k) (0) rfl (⟨Nat.zero_le _, by simp⟩) (GivesTo.g) (sub_cons rfl (sub_cons rfl (sub_cons rfl (sub_nil)))) ?_
  rintro k ⟨hk1, hk2⟩
  refine T_seq ?_
  refine Classical.byCases (p := k < fl.length) (fun hnl => ?_) (fun hnl => ?_)
  · obtain ⟨u, hu⟩ : ∃ u, fl[k]? = some u := ⟨_, List.getElem?_eq_getElem hnl⟩
    refine T_addr_n (sln (A := A) (c := c) (R := fileR) (xs := fl)) hu fun bq oq eq => ?_
    subst eq
    refine T_region_draw _ [0, 0, 2, 6, 14, 30, 63, 127, 255, 511, 1023, 2047, 255, 8191, 16383, 32767, 255, 65791, 262143, 524287] [] [(0, true), (1, true), (2, true), (3, true), (4, true), (5, true), (6, true), (7, true), (8, true), (9, true), (10, true), (11, true), (12, true), (13, true), (14, true), (15, true), (16, true), (17, true), (18, true), (19, true)] (by kernel_rfl) (by decide +kernel) (Gives.refl _) ?_
    refine TF_y rfl rfl (Y_move rfl) ?_
    refine TF_y rfl rfl (Y_move rfl) ?_
    refine TF_y rfl rfl (Y_nil_check rfl) ?_
    refine TF_y rfl rfl (Y_field_addr rfl) ?_
    refine TF_y rfl rfl (Y_load rfl rfl) ?_
    refine TF_y rfl rfl (Y_len rfl) ?_
    refine TF_y rfl rfl (Y_lt rfl rfl) ?_
    refine TF_name 11 (v' := .bool true) rfl (congrArg Value.bool (decide_eq_true (by omega))) ?_
    refine TF_y rfl rfl (Y_move rfl) ?_
    refine TF_gy rfl rfl rfl rfl (Y_move rfl) ?_
    refine TF_gy rfl rfl rfl rfl (Y_nil_check rfl) ?_
    refine TF_gy rfl rfl rfl rfl (Y_field_addr rfl) ?_
    refine TF_gy rfl rfl rfl rfl (Y_load rfl rfl) ?_
    refine TF_gy rfl rfl rfl rfl (Y_move rfl) ?_
    refine TF_gy rfl rfl rfl rfl (Y_index_n (R := fileR) (xs := fl) rfl rfl rfl hu) ?_
    refine TF_gy rfl rfl rfl rfl (Y_field_addr2 rfl) ?_
    refine TF_gy rfl rfl rfl rfl (Y_load_n (R := fileR) (c := c) (xs := fl) (q := 0) rfl sln hu rfl) ?_
    refine TF_gy rfl rfl rfl rfl (Y_field_addr rfl) ?_
    refine TF_gy rfl rfl rfl rfl (Y_load rfl rfl) ?_
    refine TF_gy rfl rfl rfl rfl (Y_str_lt rfl rfl) ?_
    refine TF_name 23 (v' := .bool (decide (ltN u.name f.name = true))) rfl (by unfold ltN; cases Op.bytesLess u.name.toList f.name.toList <;> rfl) ?_
    refine TF_y rfl rfl (Y_pick_t rfl rfl) ?_
    refine TF_nil ?_
    refine T_if rfl (fun h24 => ?_) (fun h24 => ?_)
    · refine T_skip ?_
      refine thenS_normal ?_
      refine T_block ?_
      refine T_region_last ?_
      refine TL_y rfl rfl (Y_move rfl) ?_
      refine TL_y rfl rfl (Y_add rfl rfl (by omega)) ?_
      refine TL_name 26 (v' := .int .i64 ((k + 1 : Nat) : Int)) rfl (rfl) ?_
      refine TL_y rfl rfl (Y_assign rfl) ?_
      refine TL_nil ?_
      refine inB_normal ?_
      refine thenS_normal ?_
      exact ⟨k + 1, ⟨by omega, by rw [takeAt hu]; intro q hq; rcases List.mem_append.1 hq with h | h; exact hk2 q h; (rw [List.mem_singleton.1 h]; exact h24)⟩, by omega, holds_to (sub_cons rfl (sub_cons rfl (sub_cons rfl (sub_nil)))) GivesTo.g⟩
    · refine T_exit ?_
      refine thenS_exit ?_
      refine thenS_exit ?_
      refine inB_hit ?_
      refine thenS_normal ?_
      have hpos : posW (fun q : FileD => ltN q.name f.name) fl = k := posW_eq hk1 hk2 (fun q hq => by rw [hu] at hq; cases hq; simpa using h24)
      generalize (some ⟨bq, oq, none⟩ : Option Addr) = A
      have hput : fl.take k ++ f :: fl.drop k = putD3 fl f := by unfold putD3 insW; rw [hpos]
      refine T_rd_last [0, 0, 0, 4, 12, 28, 0, 124, 254, 0, 512, 2046, 0, 4096, 12288, 28672, 0, 126976, 262142, 524287, 1048575, 2097151] (by kernel_rfl) (by decide +kernel) ?_
      refine RD_pair 1 10 (by decide) ?_ ?_
      · refine RD_pair 8 10 (by decide) ?_ ?_
        · refine RD_leaf (rkC b sz A fl.length c st ca :: osl fileR 40 A c fl :: cells b3 (fileC f) 40 :: []) [0, 0, 0, 4, 12, 28, 0, 124, 254, 0, 1022, 2046, 0, 4096, 12288, 28672, 0, 126976, 262142, 524287, 1048575, 2097151] [21] [(0, true), (2, true), (3, true), (4, true), (5, true), (6, true), (7, true), (9, true), (12, true), (13, true), (14, true), (15, true), (16, true), (17, true), (1, false), (8, false), (10, false), (11, false), (18, false), (19, true), (20, true), (21, false)] (by decide +kernel) GivesTo.g ?_
          refine TF_y rfl rfl (Y_move rfl) ?_
          refine TF_y rfl rfl (Y_move rfl) ?_
          refine TF_y rfl rfl (Y_nil_check rfl) ?_
          refine TF_y rfl rfl (Y_field_addr rfl) ?_
          refine TF_y rfl rfl (Y_load rfl rfl) ?_
          refine TF_y rfl rfl (Y_move rfl) ?_
          refine TF_y rfl rfl (Y_cut_h rfl rfl (by omega)) ?_
          refine TF_name 34 (v' := .slice A (fl.take k).length c) rfl (by congr 1; rw [List.length_take]; omega) ?_
          refine TF_y rfl rfl (Y_load_agg rfl rfl) ?_
          refine TF_y rfl rfl (Y_move rfl) ?_
          refine TF_y rfl rfl (Y_nil_check rfl) ?_
          refine TF_y rfl rfl (Y_field_addr rfl) ?_
          refine TF_y rfl rfl (Y_load rfl rfl) ?_
          refine TF_y rfl rfl (Y_move rfl) ?_
          refine TF_y rfl rfl (Y_cut_l rfl rfl (by omega)) ?_
          refine TF_name 44 (v' := .slice (cutA A k c fileR.sz) (fl.drop k).length (c - k)) rfl (by rw [List.length_drop]; rfl) ?_
          refine TF_anchor rfl ?_
          refine TL_build_slice rfl rfl rfl rfl rfl rfl ?_
          intro b28
          refine TL_osl (k := 0) fileR [] (Knows.const fun M => rfl) rfl (by simp) ?_
          refine TL_name 28 (v' := .slice (some ⟨b28, 0, none⟩) ([] : List FileD).length 0) rfl rfl ?_
          refine TF_end GivesTo.g ?_
          refine TF_anchor rfl ?_
          refine TL_append_n (R := fileR) rfl rfl rfl rfl rfl ((sln (A := A) (c := c) (xs := fl)).take k) (by simp only [List.length_nil, List.length_take]; omega) ?_
          intro A35 c35
          simp only [List.nil_append]
          refine TF_end GivesTo.g ?_
          refine TF_anchor rfl ?_
          refine TL_build_slice rfl rfl rfl rfl rfl rfl ?_
          intro b37
          refine TL_osl (k := 1) fileR [f] (cells_one' (Knows.const (file_rep ho))) rfl (by decide) ?_
          refine TL_freeze_osl ?_
          refine TL_name 37 (v' := .slice (some ⟨b37, 0, none⟩) [f].length 1) rfl rfl ?_
          refine TF_end GivesTo.g ?_
          refine TF_anchor rfl ?_
          refine TL_append rfl rfl rfl rfl rfl slk (by simp only [List.length_cons, List.length_nil, List.length_take]; omega) ?_
          intro A38 c38
          refine TF_end GivesTo.g ?_
          refine TF_anchor rfl ?_
          refine TL_append_n (R := fileR) rfl rfl rfl rfl rfl ((sln (A := A) (c := c) (xs := fl)).dropc hk1 hlc.1) (by simp only [List.length_append, List.length_cons, List.length_nil, List.length_take, List.length_drop]; omega) ?_
          intro A45 c45
          rw [show fl.take k ++ [f] ++ fl.drop k = putD3 fl f by rw [← hput]; simp]
          refine TF_end GivesTo.g ?_
          refine TF_y rfl rfl (Y_nil_check rfl) ?_
          refine TF_y rfl rfl (Y_field_addr rfl) ?_
          refine TF_anchor rfl ?_
          refine TL_store rfl rfl rfl rfl rfl rfl ?_
          refine TF_end_tail rfl ?_
          refine TF_nil ?_
          exact RetG_0 (.inr rfl) rfl GivesTo.g (⟨A45, c45, rfl, rfl⟩)
        · refine RD_leaf (rkC b sz A fl.length c st ca :: osl fileR 40 A c fl :: cells b3 (fileC f) 40 :: []) [0, 0, 0, 4, 12, 28, 0, 124, 1790, 0, 514, 2046, 0, 4096, 12288, 28672, 0, 126976, 262142, 524287, 1048575, 2097151] [21] [(0, true), (2, true), (3, true), (4, true), (5, true), (6, true), (7, true), (9, true), (12, true), (13, true), (14, true), (15, true), (16, true), (17, true), (1, false), (10, false), (8, false), (11, false), (18, false), (19, true), (20, true), (21, false)] (by decide +kernel) GivesTo.g ?_
          refine TF_y rfl rfl (Y_move rfl) ?_
          refine TF_y rfl rfl (Y_move rfl) ?_
          refine TF_y rfl rfl (Y_nil_check rfl) ?_
          refine TF_y rfl rfl (Y_field_addr rfl) ?_
          refine TF_y rfl rfl (Y_load rfl rfl) ?_
          refine TF_y rfl rfl (Y_move rfl) ?_
          refine TF_y rfl rfl (Y_cut_h rfl rfl (by omega)) ?_
          refine TF_name 34 (v' := .slice A (fl.take k).length c) rfl (by congr 1; rw [List.length_take]; omega) ?_
          refine TF_y rfl rfl (Y_load_agg rfl rfl) ?_
          refine TF_y rfl rfl (Y_move rfl) ?_
          refine TF_y rfl rfl (Y_nil_check rfl) ?_
          refine TF_y rfl rfl (Y_field_addr rfl) ?_
          refine TF_y rfl rfl (Y_load rfl rfl) ?_
          refine TF_y rfl rfl (Y_move rfl) ?_
          refine TF_y rfl rfl (Y_cut_l rfl rfl (by omega)) ?_
          refine TF_name 44 (v' := .slice (cutA A k c fileR.sz) (fl.drop k).length (c - k)) rfl (by rw [List.length_drop]; rfl) ?_
          refine TF_anchor rfl ?_
          refine TL_build_slice rfl rfl rfl rfl rfl rfl ?_
          intro b28
          refine TL_osl (k := 0) fileR [] (Knows.const fun M => rfl) rfl (by simp) ?_
          refine TL_name 28 (v' := .slice (some ⟨b28, 0, none⟩) ([] : List FileD).length 0) rfl rfl ?_
          refine TF_end GivesTo.g ?_
          refine TF_anchor rfl ?_
          refine TL_build_slice rfl rfl rfl rfl rfl rfl ?_
          intro b37
          refine TL_osl (k := 1) fileR [f] (cells_one' (Knows.const (file_rep ho))) rfl (by decide) ?_
          refine TL_freeze_osl ?_
          refine TL_name 37 (v' := .slice (some ⟨b37, 0, none⟩) [f].length 1) rfl rfl ?_
          refine TF_end GivesTo.g ?_
          refine TF_anchor rfl ?_
          refine TL_append_n (R := fileR) rfl rfl rfl rfl rfl ((sln (A := A) (c := c) (xs := fl)).take k) (by simp only [List.length_nil, List.length_take]; omega) ?_
          intro A35 c35
          simp only [List.nil_append]
          refine TF_end GivesTo.g ?_
          refine TF_anchor rfl ?_
          refine TL_append rfl rfl rfl rfl rfl slk (by simp only [List.length_cons, List.length_nil, List.length_take]; omega) ?_
          intro A38 c38
          refine TF_end GivesTo.g ?_
          refine TF_anchor rfl ?_
          refine TL_append_n (R := fileR) rfl rfl rfl rfl rfl ((sln (A := A) (c := c) (xs := fl)).dropc hk1 hlc.1) (by simp only [List.length_append, List.length_cons, List.length_nil, List.length_take, List.length_drop]; omega) ?_
          intro A45 c45
          rw [show fl.take k ++ [f] ++ fl.drop k = putD3 fl f by rw [← hput]; simp]
          refine TF_end GivesTo.g ?_
          refine TF_y rfl rfl (Y_nil_check rfl) ?_
          refine TF_y rfl rfl (Y_field_addr rfl) ?_
          refine TF_anchor rfl ?_
          refine TL_store rfl rfl rfl rfl rfl rfl ?_
          refine TF_end_tail rfl ?_
          refine TF_nil ?_
          exact RetG_0 (.inr rfl) rfl GivesTo.g (⟨A45, c45, rfl, rfl⟩)
      · refine RD_leaf (rkC b sz A fl.length c st ca :: osl fileR 40 A c fl :: cells b3 (fileC f) 40 :: []) [0, 1536, 0, 4, 12, 28, 0, 124, 1790, 0, 512, 2046, 0, 4096, 12288, 28672, 0, 126976, 262142, 524287, 1048575, 2097151] [21] [(0, true), (2, true), (3, true), (4, true), (5, true), (6, true), (7, true), (9, true), (12, true), (13, true), (14, true), (15, true), (16, true), (17, true), (10, false), (1, false), (8, false), (11, false), (18, false), (19, true), (20, true), (21, false)] (by decide +kernel) GivesTo.g ?_
        refine TF_y rfl rfl (Y_move rfl) ?_
        refine TF_y rfl rfl (Y_move rfl) ?_
        refine TF_y rfl rfl (Y_nil_check rfl) ?_
        refine TF_y rfl rfl (Y_field_addr rfl) ?_
        refine TF_y rfl rfl (Y_load rfl rfl) ?_
        refine TF_y rfl rfl (Y_move rfl) ?_
        refine TF_y rfl rfl (Y_cut_h rfl rfl (by omega)) ?_
        refine TF_name 34 (v' := .slice A (fl.take k).length c) rfl (by congr 1; rw [List.length_take]; omega) ?_
        refine TF_y rfl rfl (Y_load_agg rfl rfl) ?_
        refine TF_y rfl rfl (Y_move rfl) ?_
        refine TF_y rfl rfl (Y_nil_check rfl) ?_
        refine TF_y rfl rfl (Y_field_addr rfl) ?_
        refine TF_y rfl rfl (Y_load rfl rfl) ?_
        refine TF_y rfl rfl (Y_move rfl) ?_
        refine TF_y rfl rfl (Y_cut_l rfl rfl (by omega)) ?_
        refine TF_name 44 (v' := .slice (cutA A k c fileR.sz) (fl.drop k).length (c - k)) rfl (by rw [List.length_drop]; rfl) ?_
        refine TF_anchor rfl ?_
        refine TL_build_slice rfl rfl rfl rfl rfl rfl ?_
        intro b37
        refine TL_osl (k := 1) fileR [f] (cells_one' (Knows.const (file_rep ho))) rfl (by decide) ?_
        refine TL_freeze_osl ?_
        refine TL_name 37 (v' := .slice (some ⟨b37, 0, none⟩) [f].length 1) rfl rfl ?_
        refine TF_end GivesTo.g ?_
        refine TF_anchor rfl ?_
        refine TL_build_slice rfl rfl rfl rfl rfl rfl ?_
        intro b28
        refine TL_osl (k := 0) fileR [] (Knows.const fun M => rfl) rfl (by simp) ?_
        refine TL_name 28 (v' := .slice (some ⟨b28, 0, none⟩) ([] : List FileD).length 0) rfl rfl ?_
        refine TF_end GivesTo.g ?_
        refine TF_anchor rfl ?_
        refine TL_append_n (R := fileR) rfl rfl rfl rfl rfl ((sln (A := A) (c := c) (xs := fl)).take k) (by simp only [List.length_nil, List.length_take]; omega) ?_
        intro A35 c35
        simp only [List.nil_append]
        refine TF_end GivesTo.g ?_
        refine TF_anchor rfl ?_
        refine TL_append rfl rfl rfl rfl rfl slk (by simp only [List.length_cons, List.length_nil, List.length_take]; omega) ?_
        intro A38 c38
        refine TF_end GivesTo.g ?_
        refine TF_anchor rfl ?_
        refine TL_append_n (R := fileR) rfl rfl rfl rfl rfl ((sln (A := A) (c := c) (xs := fl)).dropc hk1 hlc.1) (by simp only [List.length_append, List.length_cons, List.length_nil, List.length_take, List.length_drop]; omega) ?_
        intro A45 c45
        rw [show fl.take k ++ [f] ++ fl.drop k = putD3 fl f by rw [← hput]; simp]
        refine TF_end GivesTo.g ?_
        refine TF_y rfl rfl (Y_nil_check rfl) ?_
        refine TF_y rfl rfl (Y_field_addr rfl) ?_
        refine TF_anchor rfl ?_
        refine TL_store rfl rfl rfl rfl rfl rfl ?_
        refine TF_end_tail rfl ?_
        refine TF_nil ?_
        exact RetG_0 (.inr rfl) rfl GivesTo.g (⟨A45, c45, rfl, rfl⟩)
  · refine T_region_draw _ [0, 0, 2, 6, 14, 30, 63, 127, 255, 511, 1023, 2047, 255, 8191, 16383, 32767, 255, 65791, 262143, 524287] [] [(0, true), (1, true), (2, true), (3, true), (4, true), (5, true), (6, true), (7, true), (8, true), (9, true), (10, true), (11, true), (12, true), (13, true), (14, true), (15, true), (16, true), (17, true), (18, true), (19, true)] (by kernel_rfl) (by decide +kernel) (Gives.refl _) ?_
    refine TF_y rfl rfl (Y_move rfl) ?_
    refine TF_y rfl rfl (Y_move rfl) ?_
    refine TF_y rfl rfl (Y_nil_check rfl) ?_
    refine TF_y rfl rfl (Y_field_addr rfl) ?_
    refine TF_y rfl rfl (Y_load rfl rfl) ?_
    refine TF_y rfl rfl (Y_len rfl) ?_
    refine TF_y rfl rfl (Y_lt rfl rfl) ?_
    refine TF_name 11 (v' := .bool false) rfl (congrArg Value.bool (decide_eq_false (by omega))) ?_
    refine TF_y rfl rfl (Y_move rfl) ?_
    refine TF_gskip rfl rfl rfl rfl rfl ?_
    refine TF_gskip rfl rfl rfl rfl rfl ?_
    refine TF_gskip rfl rfl rfl rfl rfl ?_
    refine TF_gskip rfl rfl rfl rfl rfl ?_
    refine TF_gskip rfl rfl rfl rfl rfl ?_
    refine TF_gskip rfl rfl rfl rfl rfl ?_
    refine TF_gskip rfl rfl rfl rfl rfl ?_
    refine TF_gskip rfl rfl rfl rfl rfl ?_
    refine TF_gskip rfl rfl rfl rfl rfl ?_
    refine TF_gskip rfl rfl rfl rfl rfl ?_
    refine TF_gskip rfl rfl rfl rfl rfl ?_
    refine TF_y rfl rfl (Y_pick_f rfl rfl) ?_
    refine TF_nil ?_
    refine T_cond_false rfl ?_
    refine T_exit ?_
    refine thenS_exit ?_
    refine thenS_exit ?_
    refine inB_hit ?_
    refine thenS_normal ?_
    have hpos : posW (fun q : FileD => ltN q.name f.name) fl = k := posW_eq hk1 hk2 (fun q hq => by have := (List.getElem?_eq_some_iff.1 hq).1; omega)
    have hput : fl.take k ++ f :: fl.drop k = putD3 fl f := by unfold putD3 insW; rw [hpos]
    refine T_rd_last [0, 0, 0, 4, 12, 28, 0, 124, 254, 0, 512, 2046, 0, 4096, 12288, 28672, 0, 126976, 262142, 524287, 1048575, 2097151] (by kernel_rfl) (by decide +kernel) ?_
    refine RD_pair 1 10 (by decide) ?_ ?_
    · refine RD_pair 8 10 (by decide) ?_ ?_
      · refine RD_leaf (rkC b sz A fl.length c st ca :: osl fileR 40 A c fl :: cells b3 (fileC f) 40 :: []) [0, 0, 0, 4, 12, 28, 0, 124, 254, 0, 1022, 2046, 0, 4096, 12288, 28672, 0, 126976, 262142, 524287, 1048575, 2097151] [21] [(0, true), (2, true), (3, true), (4, true), (5, true), (6, true), (7, true), (9, true), (12, true), (13, true), (14, true), (15, true), (16, true), (17, true), (1, false), (8, false), (10, false), (11, false), (18, false), (19, true), (20, true), (21, false)] (by decide +kernel) GivesTo.g ?_
        refine TF_y rfl rfl (Y_move rfl) ?_
        refine TF_y rfl rfl (Y_move rfl) ?_
        refine TF_y rfl rfl (Y_nil_check rfl) ?_
        refine TF_y rfl rfl (Y_field_addr rfl) ?_
        refine TF_y rfl rfl (Y_load rfl rfl) ?_
        refine TF_y rfl rfl (Y_move rfl) ?_
        refine TF_y rfl rfl (Y_cut_h rfl rfl (by omega)) ?_
        refine TF_name 34 (v' := .slice A (fl.take k).length c) rfl (by congr 1; rw [List.length_take]; omega) ?_
        refine TF_y rfl rfl (Y_load_agg rfl rfl) ?_
        refine TF_y rfl rfl (Y_move rfl) ?_
        refine TF_y rfl rfl (Y_nil_check rfl) ?_
        refine TF_y rfl rfl (Y_field_addr rfl) ?_
        refine TF_y rfl rfl (Y_load rfl rfl) ?_
        refine TF_y rfl rfl (Y_move rfl) ?_
        refine TF_y rfl rfl (Y_cut_l rfl rfl (by omega)) ?_
        refine TF_name 44 (v' := .slice (cutA A k c fileR.sz) (fl.drop k).length (c - k)) rfl (by rw [List.length_drop]; rfl) ?_
        refine TF_anchor rfl ?_
        refine TL_build_slice rfl rfl rfl rfl rfl rfl ?_
        intro b28
        refine TL_osl (k := 0) fileR [] (Knows.const fun M => rfl) rfl (by simp) ?_
        refine TL_name 28 (v' := .slice (some ⟨b28, 0, none⟩) ([] : List FileD).length 0) rfl rfl ?_
        refine TF_end GivesTo.g ?_
        refine TF_anchor rfl ?_
        refine TL_append_n (R := fileR) rfl rfl rfl rfl rfl ((sln (A := A) (c := c) (xs := fl)).take k) (by simp only [List.length_nil, List.length_take]; omega) ?_
        intro A35 c35
        simp only [List.nil_append]
        refine TF_end GivesTo.g ?_
        refine TF_anchor rfl ?_
        refine TL_build_slice rfl rfl rfl rfl rfl rfl ?_
        intro b37
        refine TL_osl (k := 1) fileR [f] (cells_one' (Knows.const (file_rep ho))) rfl (by decide) ?_
        refine TL_freeze_osl ?_
        refine TL_name 37 (v' := .slice (some ⟨b37, 0, none⟩) [f].length 1) rfl rfl ?_
        refine TF_end GivesTo.g ?_
        refine TF_anchor rfl ?_
        refine TL_append rfl rfl rfl rfl rfl slk (by simp only [List.length_cons, List.length_nil, List.length_take]; omega) ?_
        intro A38 c38
        refine TF_end GivesTo.g ?_
        refine TF_anchor rfl ?_
        refine TL_append_n (R := fileR) rfl rfl rfl rfl rfl ((sln (A := A) (c := c) (xs := fl)).dropc hk1 hlc.1) (by simp only [List.length_append, List.length_cons, List.length_nil, List.length_take, List.length_drop]; omega) ?_
        intro A45 c45
        rw [show fl.take k ++ [f] ++ fl.drop k = putD3 fl f by rw [← hput]; simp]
        refine TF_end GivesTo.g ?_
        refine TF_y rfl rfl (Y_nil_check rfl) ?_
        refine TF_y rfl rfl (Y_field_addr rfl) ?_
        refine TF_anchor rfl ?_
        refine TL_store rfl rfl rfl rfl rfl rfl ?_
        refine TF_end_tail rfl ?_
        refine TF_nil ?_
        exact RetG_0 (.inr rfl) rfl GivesTo.g (⟨A45, c45, rfl, rfl⟩)
      · refine RD_leaf (rkC b sz A fl.length c st ca :: osl fileR 40 A c fl :: cells b3 (fileC f) 40 :: []) [0, 0, 0, 4, 12, 28, 0, 124, 1790, 0, 514, 2046, 0, 4096, 12288, 28672, 0, 126976, 262142, 524287, 1048575, 2097151] [21] [(0, true), (2, true), (3, true), (4, true), (5, true), (6, true), (7, true), (9, true), (12, true), (13, true), (14, true), (15, true), (16, true), (17, true), (1, false), (10, false), (8, false), (11, false), (18, false), (19, true), (20, true), (21, false)] (by decide +kernel) GivesTo.g ?_
        refine TF_y rfl rfl (Y_move rfl) ?_
        refine TF_y rfl rfl (Y_move rfl) ?_
        refine TF_y rfl rfl (Y_nil_check rfl) ?_
        refine TF_y rfl rfl (Y_field_addr rfl) ?_
        refine TF_y rfl rfl (Y_load rfl rfl) ?_
        refine TF_y rfl rfl (Y_move rfl) ?_
        refine TF_y rfl rfl (Y_cut_h rfl rfl (by omega)) ?_
        refine TF_name 34 (v' := .slice A (fl.take k).length c) rfl (by congr 1; rw [List.length_take]; omega) ?_
        refine TF_y rfl rfl (Y_load_agg rfl rfl) ?_
        refine TF_y rfl rfl (Y_move rfl) ?_
        refine TF_y rfl rfl (Y_nil_check rfl) ?_
        refine TF_y rfl rfl (Y_field_addr rfl) ?_
        refine TF_y rfl rfl (Y_load rfl rfl) ?_
        refine TF_y rfl rfl (Y_move rfl) ?_
        refine TF_y rfl rfl (Y_cut_l rfl rfl (by omega)) ?_
        refine TF_name 44 (v' := .slice (cutA A k c fileR.sz) (fl.drop k).length (c - k)) rfl (by rw [List.length_drop]; rfl) ?_
        refine TF_anchor rfl ?_
        refine TL_build_slice rfl rfl rfl rfl rfl rfl ?_
        intro b28
        refine TL_osl (k := 0) fileR [] (Knows.const fun M => rfl) rfl (by simp) ?_
        refine TL_name 28 (v' := .slice (some ⟨b28, 0, none⟩) ([] : List FileD).length 0) rfl rfl ?_
        refine TF_end GivesTo.g ?_
        refine TF_anchor rfl ?_
        refine TL_build_slice rfl rfl rfl rfl rfl rfl ?_
        intro b37
        refine TL_osl (k := 1) fileR [f] (cells_one' (Knows.const (file_rep ho))) rfl (by decide) ?_
        refine TL_freeze_osl ?_
        refine TL_name 37 (v' := .slice (some ⟨b37, 0, none⟩) [f].length 1) rfl rfl ?_
        refine TF_end GivesTo.g ?_
        refine TF_anchor rfl ?_
        refine TL_append_n (R := fileR) rfl rfl rfl rfl rfl ((sln (A := A) (c := c) (xs := fl)).take k) (by simp only [List.length_nil, List.length_take]; omega) ?_
        intro A35 c35
        simp only [List.nil_append]
        refine TF_end GivesTo.g ?_
        refine TF_anchor rfl ?_
        refine TL_append rfl rfl rfl rfl rfl slk (by simp only [List.length_cons, List.length_nil, List.length_take]; omega) ?_
        intro A38 c38
        refine TF_end GivesTo.g ?_
        refine TF_anchor rfl ?_
        refine TL_append_n (R := fileR) rfl rfl rfl rfl rfl ((sln (A := A) (c := c) (xs := fl)).dropc hk1 hlc.1) (by simp only [List.length_append, List.length_cons, List.length_nil, List.length_take, List.length_drop]; omega) ?_
        intro A45 c45
        rw [show fl.take k ++ [f] ++ fl.drop k = putD3 fl f by rw [← hput]; simp]
        refine TF_end GivesTo.g ?_
        refine TF_y rfl rfl (Y_nil_check rfl) ?_
        refine TF_y rfl rfl (Y_field_addr rfl) ?_
        refine TF_anchor rfl ?_
        refine TL_store rfl rfl rfl rfl rfl rfl ?_
        refine TF_end_tail rfl ?_
        refine TF_nil ?_
        exact RetG_0 (.inr rfl) rfl GivesTo.g (⟨A45, c45, rfl, rfl⟩)
    · refine RD_leaf (rkC b sz A fl.length c st ca :: osl fileR 40 A c fl :: cells b3 (fileC f) 40 :: []) [0, 1536, 0, 4, 12, 28, 0, 124, 1790, 0, 512, 2046, 0, 4096, 12288, 28672, 0, 126976, 262142, 524287, 1048575, 2097151] [21] [(0, true), (2, true), (3, true), (4, true), (5, true), (6, true), (7, true), (9, true), (12, true), (13, true), (14, true), (15, true), (16, true), (17, true), (10, false), (1, false), (8, false), (11, false), (18, false), (19, true), (20, true), (21, false)] (by decide +kernel) GivesTo.g ?_
      refine TF_y rfl rfl (Y_move rfl) ?_
      refine TF_y rfl rfl (Y_move rfl) ?_
      refine TF_y rfl rfl (Y_nil_check rfl) ?_
      refine TF_y rfl rfl (Y_field_addr rfl) ?_
      refine TF_y rfl rfl (Y_load rfl rfl) ?_
      refine TF_y rfl rfl (Y_move rfl) ?_
      refine TF_y rfl rfl (Y_cut_h rfl rfl (by omega)) ?_
      refine TF_name 34 (v' := .slice A (fl.take k).length c) rfl (by congr 1; rw [List.length_take]; omega) ?_
      refine TF_y rfl rfl (Y_load_agg rfl rfl) ?_
      refine TF_y rfl rfl (Y_move rfl) ?_
      refine TF_y rfl rfl (Y_nil_check rfl) ?_
      refine TF_y rfl rfl (Y_field_addr rfl) ?_
      refine TF_y rfl rfl (Y_load rfl rfl) ?_
      refine TF_y rfl rfl (Y_move rfl) ?_
      refine TF_y rfl rfl (Y_cut_l rfl rfl (by omega)) ?_
      refine TF_name 44 (v' := .slice (cutA A k c fileR.sz) (fl.drop k).length (c - k)) rfl (by rw [List.length_drop]; rfl) ?_
      refine TF_anchor rfl ?_
      refine TL_build_slice rfl rfl rfl rfl rfl rfl ?_
      intro b37
      refine TL_osl (k := 1) fileR [f] (cells_one' (Knows.const (file_rep ho))) rfl (by decide) ?_
      refine TL_freeze_osl ?_
      refine TL_name 37 (v' := .slice (some ⟨b37, 0, none⟩) [f].length 1) rfl rfl ?_
      refine TF_end GivesTo.g ?_
      refine TF_anchor rfl ?_
      refine TL_build_slice rfl rfl rfl rfl rfl rfl ?_
      intro b28
      refine TL_osl (k := 0) fileR [] (Knows.const fun M => rfl) rfl (by simp) ?_
      refine TL_name 28 (v' := .slice (some ⟨b28, 0, none⟩) ([] : List FileD).length 0) rfl rfl ?_
      refine TF_end GivesTo.g ?_
      refine TF_anchor rfl ?_
      refine TL_append_n (R := fileR) rfl rfl rfl rfl rfl ((sln (A := A) (c := c) (xs := fl)).take k) (by simp only [List.length_nil, List.length_take]; omega) ?_
      intro A35 c35
      simp only [List.nil_append]
      refine TF_end GivesTo.g ?_
      refine TF_anchor rfl ?_
      refine TL_append rfl rfl rfl rfl rfl slk (by simp only [List.length_cons, List.length_nil, List.length_take]; omega) ?_
      intro A38 c38
      refine TF_end GivesTo.g ?_
      refine TF_anchor rfl ?_
      refine TL_append_n (R := fileR) rfl rfl rfl rfl rfl ((sln (A := A) (c := c) (xs := fl)).dropc hk1 hlc.1) (by simp only [List.length_append, List.length_cons, List.length_nil, List.length_take, List.length_drop]; omega) ?_
      intro A45 c45
      rw [show fl.take k ++ [f] ++ fl.drop k = putD3 fl f by rw [← hput]; simp]
      refine TF_end GivesTo.g ?_
      refine TF_y rfl rfl (Y_nil_check rfl) ?_
      refine TF_y rfl rfl (Y_field_addr rfl) ?_
      refine TF_anchor rfl ?_
      refine TL_store rfl rfl rfl rfl rfl rfl ?_
      refine TF_end_tail rfl ?_
      refine TF_nil ?_
      exact RetG_0 (.inr rfl) rfl GivesTo.g (⟨A45, c45, rfl, rfl⟩)
theorem rkDrop_spec {L : List HP} {b c : Nat} {A : Option Addr} {sz ca : Int} {st : Bool} {fl : List FileD} (i : Nat) (hi : i < fl.length) (hlen : fl.length ≤ 1000) : Fn Try.prog 46 #[.pointer (some ⟨b, 0, none⟩), .int .i64 (i : Int)] (rkC b sz A fl.length c st ca :: osl fileR 40 A c fl :: L) (fun v L' => ∃ A' c', v = .tuple #[] ∧ L' = rkC b sz A' (fl.take i ++ fl.drop (i + 1)).length c' st ca :: osl fileR 40 A' c' (fl.take i ++ fl.drop (i + 1)) :: L) := by
  refine Fn_enter Try.func46 rfl rfl rfl rfl ?_
  refine SlN.lens (sln (A := A) (c := c) (R := fileR) (xs := fl)) fun hlc => ?_
  simp only [maxEl] at hlc
  refine T_region_draw_last (rkC b sz A fl.length c st ca :: osl fileR 40 A c fl :: []) [0, 0, 0, 4, 12, 28, 0, 124, 254, 0, 512, 1536, 3584, 0, 8192, 32256, 65534, 131071, 262143, 524287] [19] [(0, true), (2, true), (3, true), (4, true), (5, true), (6, true), (7, true), (9, true), (10, true), (11, true), (12, true), (13, true), (14, true), (15, true), (1, false), (8, false), (16, false), (17, true), (18, true), (19, false)] (by kernel_rfl) (by decide +kernel) GivesTo.g ?_
  refine TF_y rfl rfl (Y_move rfl) ?_
  refine TF_y rfl rfl (Y_move rfl) ?_
  refine TF_y rfl rfl (Y_nil_check rfl) ?_
  refine TF_y rfl rfl (Y_field_addr rfl) ?_
  refine TF_y rfl rfl (Y_load rfl rfl) ?_
  refine TF_y rfl rfl (Y_move rfl) ?_
  refine TF_y rfl rfl (Y_cut_h rfl rfl (by omega)) ?_
  refine TF_name 11 (v' := .slice A (fl.take i).length c) rfl (by congr 1; rw [List.length_take]; omega) ?_
  refine TF_y rfl rfl (Y_move rfl) ?_
  refine TF_y rfl rfl (Y_nil_check rfl) ?_
  refine TF_y rfl rfl (Y_field_addr rfl) ?_
  refine TF_y rfl rfl (Y_load rfl rfl) ?_
  refine TF_y rfl rfl (Y_move rfl) ?_
  refine TF_y rfl rfl (Y_add rfl rfl (by omega)) ?_
  refine TF_name 18 (v' := .int .i64 ((i + 1 : Nat) : Int)) rfl (rfl) ?_
  refine TF_y rfl rfl (Y_cut_l rfl rfl (by omega)) ?_
  refine TF_name 19 (v' := .slice (cutA A (i + 1) c fileR.sz) (fl.drop (i + 1)).length (c - (i + 1))) rfl (by rw [List.length_drop]; rfl) ?_
  refine TF_anchor rfl ?_
  refine TL_build_slice rfl rfl rfl rfl rfl rfl ?_
  intro b5
  refine TL_osl (k := 0) fileR [] (Knows.const fun M => rfl) rfl (by simp) ?_
  refine TL_name 5 (v' := .slice (some ⟨b5, 0, none⟩) ([] : List FileD).length 0) rfl rfl ?_
  refine TF_end GivesTo.g ?_
  refine TF_anchor rfl ?_
  refine TL_append_n (R := fileR) rfl rfl rfl rfl rfl ((sln (A := A) (c := c) (xs := fl)).take i) (by simp only [List.length_nil, List.length_take]; omega) ?_
  intro A12 c12
  simp only [List.nil_append]
  refine TF_end GivesTo.g ?_
  refine TF_anchor rfl ?_
  refine TL_append_n (R := fileR) rfl rfl rfl rfl rfl ((sln (A := A) (c := c) (xs := fl)).dropc (by omega) hlc.1) (by simp only [List.length_take, List.length_drop]; omega) ?_
  intro A20 c20
  refine TF_end GivesTo.g ?_
  refine TF_y rfl rfl (Y_nil_check rfl) ?_
  refine TF_y rfl rfl (Y_field_addr rfl) ?_
  refine TF_anchor rfl ?_
  refine TL_store rfl rfl rfl rfl rfl rfl ?_
  refine TF_end_tail rfl ?_
  refine TF_nil ?_
  exact RetG_0 (.inr rfl) rfl GivesTo.g (⟨A20, c20, rfl, rfl⟩)
end Go.SL
set_option linter.unusedVariables false
set_option linter.unusedSimpArgs false
namespace Go.SL
open Go Go.Proofs
/-! ### The list by names -/
theorem vw_at {s : DkS} {i : Nat} {f : FileD} (h : (VF s)[i]? = some f) : ∃ e, s.l[i]? = some e ∧ viewF e = f := by
  rw [List.getElem?_map] at h
  obtain ⟨e, he, hf⟩ := Option.map_eq_some_iff.1 h
  exact ⟨e, he, hf⟩
theorem find_view {s : DkS} (hi : KI s) {k : ByteArray} {r : Int} (h : (r < 0 ∧ ∀ f ∈ VF s, f.name ≠ k) ∨ ∃ (i : Nat) (f : FileD), r = (i : Int) ∧ (VF s)[i]? = some f ∧ f.name = k) : (r < 0 ∧ findF s.l k = none) ∨ ∃ (i : Nat) (e : FileE), r = (i : Int) ∧ s.l[i]? = some e ∧ e.name = k ∧ findF s.l k = some e := by
  rcases h with ⟨h1, h2⟩ | ⟨i, f, rfl, h1, h2⟩
  · exact .inl ⟨h1, findF_none.2 fun e he hn => h2 (viewF e) (List.mem_map.2 ⟨e, he, rfl⟩) hn⟩
  · obtain ⟨e, he, hf⟩ := vw_at h1
    have hn : e.name = k := by rw [← h2, ← hf]; rfl
    exact .inr ⟨i, e, rfl, he, hn, by rw [← hn]; exact hi.inc.find (List.mem_of_getElem? he)⟩
theorem vw_get {s : DkS} {i : Nat} {e : FileE} (h : s.l[i]? = some e) : (VF s)[i]? = some (viewF e) := by rw [List.getElem?_map, h]; rfl
theorem vw_set {s : DkS} (hi : IncF s.l) {i : Nat} {e e' : FileE} (h : s.l[i]? = some e) (hn : e'.name = e.name) : (VF s).set i (viewF e') = (putF s.l e').map viewF := by
  rw [← set_putF hi h hn, List.map_set]
theorem vw_drop {s : DkS} (hi : IncF s.l) {i : Nat} {e : FileE} (h : s.l[i]? = some e) : (VF s).take i ++ (VF s).drop (i + 1) = (delF s.l e.name).map viewF := by
  rw [← erase_delF hi h, List.map_append, List.map_take, List.map_drop]
theorem vw_put {l : List FileE} (e : FileE) (h : findF l e.name = none) : putD3 (l.map viewF) (viewF e) = (putF l e).map viewF := by
  unfold putD3 putF
  rw [delF_none h]
  exact insW_map (p := fun q : FileD => ltN q.name (viewF e).name) (f := viewF) e l
theorem rk_after {L : List HP} {A : Option Addr} {c : Nat} {ca : Int} {L1 L2 : List HP} (b : Nat) (s : DkS) [h1 : FindC L b [.int .i64 s.size, .slice A (VF s).length c, .bool (decide ((doneK s).calls ≠ -1)), .int .i64 (if s.calls ≠ -1 then ca - 1 else ca)] 36 L1] [h2 : FindO L1 A c FileD fileR 40 (VF s) L2] (h : KI s) (hca : intIn .i64 ca) (hcc : s.calls ≠ -1 → ca = s.calls) (ho : ¬ offK s) : Gives L (rk b (doneK s) :: L2) :=
  rk_close (h1 := h1) (h2 := h2) b (doneK s) (rk_done h hca hcc ho).1
section
variable {r : Option Nat} {n : Nat} {P : Program} {Q : Exit → St → Prop} {D : List Deferred} {E : Env} {L : List HP}
theorem T_isFile {c : Code} {f : FileD} {l : List Value} (h : l = fileC f → fileOk f → T r n P c ⟨D, E, L⟩ Q) : T r n P c ⟨D, E, is fileR f l :: L⟩ Q :=
  T_fact (Knows.head' (p := is fileR f l) (φ := fun _ => l = fileC f ∧ fileOk f) fun M k h => h) (fun _ h => h) fun hl => T_gives (Gives.drop _ _) (h hl.1 hl.2)
end
theorem str_app (a b : List Int) : strOfNums (a ++ b) = strOfNums a ++ strOfNums b := by
  apply ByteArray.ext
  simp [strOfNums, ByteArray.data_append]
theorem str_cut (a : List Int) (m : Nat) : (strOfNums a).extract 0 m = strOfNums (a.take m) := by
  apply ByteArray.ext
  simp [strOfNums, ByteArray.data_extract, List.map_take]
theorem rkSync_spec {L : List HP} {b : Nat} {s : DkS} (k : ByteArray) : Fn Try.prog 19 #[.pointer (some ⟨b, 0, none⟩), .string k] (rk b s :: L) (fun v L' => v = .int .i64 (syncK s k).2 ∧ L' = rk b (syncK s k).1 :: L) := by
  refine Fn_enter Try.func19 rfl rfl rfl rfl ?_
  refine T_region ?_
  refine TL_y rfl rfl (Y_assign rfl) ?_
  refine TL_nil ?_
  refine T_seq ?_
  refine T_region ?_
  refine TL_y rfl rfl (Y_move rfl) ?_
  refine TL_call rfl rfl (rkOff_spec) ?_
  rintro _ _ ⟨rfl, rfl⟩
  refine TL_nil ?_
  refine T_if rfl (fun h7 => ?_) (fun h7 => ?_)
  · refine T_region ?_
    refine TL_y rfl rfl (Y_assign rfl) ?_
    refine TL_nil ?_
    refine T_ret ?_
    refine thenS_ret ?_
    have hr : syncK s k = (s, 31) := by unfold syncK; cases findF s.l k <;> simp [h7]
    rw [hr]
    exact RetG_1 (.inl rfl) rfl (ResV.tmp rfl) GivesTo.g (⟨rfl, rfl⟩)
  · refine T_skip ?_
    refine thenS_normal ?_
    refine T_rk fun A c ca hok => ?_
    have hi := hok.1
    refine T_region ?_
    refine TL_y rfl rfl (Y_move rfl) ?_
    refine TL_y rfl rfl (Y_move rfl) ?_
    refine TL_call rfl rfl (rkFind_spec k) ?_
    rintro _ _ ⟨⟨r, rfl, hr0⟩, rfl⟩
    refine TL_y rfl rfl (Y_assign rfl) ?_
    refine TL_nil ?_
    refine T_seq ?_
    rcases find_view hi hr0 with ⟨h0, hf⟩ | ⟨i, e, rfl, he, hen, hf⟩
    · refine T_region ?_
      refine TL_y rfl rfl (Y_move rfl) ?_
      refine TL_y rfl rfl (Y_lt rfl rfl) ?_
      refine TL_name 12 (v' := .bool true) rfl (congrArg Value.bool (decide_eq_true h0)) ?_
      refine TL_nil ?_
      refine T_cond_true rfl ?_
      refine T_region ?_
      refine TL_y rfl rfl (Y_assign rfl) ?_
      refine TL_nil ?_
      refine T_ret ?_
      refine thenS_ret ?_
      have hr : syncK s k = (s, 4) := by unfold syncK; rw [hf]; simp [h7]
      rw [hr]
      refine RetQ.gives (rk_close (A := A) (c := c) (ca := ca) b s hok) ?_
      exact RetG_1 (.inl rfl) rfl (ResV.tmp rfl) GivesTo.g (⟨rfl, rfl⟩)
    · refine T_region ?_
      refine TL_y rfl rfl (Y_move rfl) ?_
      refine TL_y rfl rfl (Y_lt rfl rfl) ?_
      refine TL_name 12 (v' := .bool false) rfl (congrArg Value.bool (decide_eq_false (by omega))) ?_
      refine TL_nil ?_
      refine T_cond_false rfl ?_
      refine T_skip ?_
      refine thenS_normal ?_
      subst hen
      have hem := List.mem_of_getElem? he
      have hoe := hi.ok e hem
      have hte := tot_mem hem
      have htt := hi.tot
      have hss := hi.size
      refine T_focus (A := A) (c := c) (R := fileR) (vw_get he) fun g3 l3 hA3 hl3 => ?_
      subst hA3
      refine T_pull 1 rfl ?_
      refine T_isFile fun hl4 hfo => ?_
      subst hl4
      refine T_region_draw _ [0, 1, 3, 7, 0, 0, 32, 96, 224, 0, 992, 2016, 4064, 8160, 16383, 32767, 65535] [16] [(0, true), (1, true), (2, true), (3, true), (4, true), (5, true), (6, true), (7, true), (8, true), (9, true), (10, true), (11, true), (12, true), (13, true), (14, true), (15, true), (16, false)] (by kernel_rfl) (by decide +kernel) (Gives.refl _) ?_
      refine TF_y rfl rfl (Y_move rfl) ?_
      refine TF_y rfl rfl (Y_nil_check rfl) ?_
      refine TF_y rfl rfl (Y_field_addr rfl) ?_
      refine TF_y rfl rfl (Y_load rfl rfl) ?_
      refine TF_y rfl rfl (Y_move rfl) ?_
      refine TF_y rfl rfl (Y_move rfl) ?_
      refine TF_y rfl rfl (Y_nil_check rfl) ?_
      refine TF_y rfl rfl (Y_field_addr rfl) ?_
      refine TF_y rfl rfl (Y_load rfl rfl) ?_
      refine TF_y rfl rfl (Y_move rfl) ?_
      refine TF_y rfl rfl (Y_index_x (R := fileR) (xs := VF s) rfl rfl rfl (vw_get he)) ?_
      refine TF_y rfl rfl (Y_field_addr2 rfl) ?_
      refine TF_y rfl rfl (Y_load_x rfl rfl) ?_
      refine TF_y rfl rfl (Y_len_str rfl) ?_
      refine TF_name 26 (v' := .int .i64 (e.bytes.length : Int)) rfl (by rw [show (viewF e).bytes.size = e.bytes.length from str_size _]) ?_
      refine TF_y rfl rfl (Y_index_x (R := fileR) (xs := VF s) rfl rfl rfl (vw_get he)) ?_
      refine TF_y rfl rfl (Y_field_addr2 rfl) ?_
      refine TF_anchor rfl ?_
      refine TL_store_x rfl rfl rfl rfl rfl rfl ?_
      refine TF_end_tail rfl ?_
      refine TF_nil ?_
      have hki := hi.change hem e.bytes (e.bytes.length : Int) (Nat.le_refl _) hoe.2.2.2 ⟨by omega, Int.le_refl _⟩
      refine T_unx (R := fileR) g3 (viewF ⟨e.name, e.blk, e.bytes, (e.bytes.length : Int)⟩) (Knows.const (file_rep (f := viewF ⟨e.name, e.blk, e.bytes, (e.bytes.length : Int)⟩) ⟨hfo.1, hfo.2.1, show intIn .i64 (e.bytes.length : Int) from i64In_mk (by omega)⟩)) ?_
      rw [show (VF s).length = ((VF s).set i (viewF ⟨e.name, e.blk, e.bytes, (e.bytes.length : Int)⟩)).length from (List.length_set ..).symm]
      rw [vw_set (e' := ⟨e.name, e.blk, e.bytes, (e.bytes.length : Int)⟩) hi.inc he rfl]
      refine T_region ?_
      refine TL_y rfl rfl (Y_move rfl) ?_
      refine TL_pullc b ?_
      refine TL_call rfl rfl (rkDid_spec ⟨s.size, s.calls, putF s.l ⟨e.name, e.blk, e.bytes, (e.bytes.length : Int)⟩⟩ hki hok.2.1 hok.2.2 h7) ?_
      rintro _ _ ⟨rfl, rfl⟩
      refine TL_y rfl rfl (Y_assign rfl) ?_
      refine TL_nil ?_
      refine T_ret ?_
      have hr : syncK s e.name = (doneK ⟨s.size, s.calls, putF s.l ⟨e.name, e.blk, e.bytes, (e.bytes.length : Int)⟩⟩, 0) := by unfold syncK; rw [hf]; simp only; rw [if_neg h7]
      rw [hr]
      refine RetQ.gives (rk_after (A := some ⟨g3, 0, none⟩) (c := c) (ca := ca) b ⟨s.size, s.calls, putF s.l ⟨e.name, e.blk, e.bytes, (e.bytes.length : Int)⟩⟩ hki hok.2.1 hok.2.2 h7) ?_
      exact RetG_1 (.inl rfl) rfl (ResV.tmp rfl) GivesTo.g (⟨rfl, rfl⟩)
theorem rkCut_spec {L : List HP} {b : Nat} {s : DkS} (k : ByteArray) (n : Int) : Fn Try.prog 21 #[.pointer (some ⟨b, 0, none⟩), .string k, .int .i64 n] (rk b s :: L) (fun v L' => v = .int .i64 (cutK s k n).2 ∧ L' = rk b (cutK s k n).1 :: L) := by
  refine Fn_enter Try.func21 rfl rfl rfl rfl ?_
  refine T_region ?_
  refine TL_y rfl rfl (Y_assign rfl) ?_
  refine TL_nil ?_
  refine T_seq ?_
  refine T_region ?_
  refine TL_y rfl rfl (Y_move rfl) ?_
  refine TL_call rfl rfl (rkOff_spec) ?_
  rintro _ _ ⟨rfl, rfl⟩
  refine TL_nil ?_
  refine T_if rfl (fun h9 => ?_) (fun h9 => ?_)
  · refine T_region ?_
    refine TL_y rfl rfl (Y_assign rfl) ?_
    refine TL_nil ?_
    refine T_ret ?_
    refine thenS_ret ?_
    have hr : cutK s k n = (s, 31) := by unfold cutK; cases findF s.l k <;> simp [h9]
    rw [hr]
    exact RetG_1 (.inl rfl) rfl (ResV.tmp rfl) GivesTo.g (⟨rfl, rfl⟩)
  · refine T_skip ?_
    refine thenS_normal ?_
    refine T_rk fun A c ca hok => ?_
    have hi := hok.1
    refine T_region ?_
    refine TL_y rfl rfl (Y_move rfl) ?_
    refine TL_y rfl rfl (Y_move rfl) ?_
    refine TL_call rfl rfl (rkFind_spec k) ?_
    rintro _ _ ⟨⟨r, rfl, hr0⟩, rfl⟩
    refine TL_y rfl rfl (Y_assign rfl) ?_
    refine TL_nil ?_
    refine T_seq ?_
    rcases find_view hi hr0 with ⟨h0, hf⟩ | ⟨i, e, rfl, he, hen, hf⟩
    · refine T_region ?_
      refine TL_y rfl rfl (Y_move rfl) ?_
      refine TL_y rfl rfl (Y_lt rfl rfl) ?_
      refine TL_name 14 (v' := .bool true) rfl (congrArg Value.bool (decide_eq_true h0)) ?_
      refine TL_nil ?_
      refine T_cond_true rfl ?_
      refine T_region ?_
      refine TL_y rfl rfl (Y_assign rfl) ?_
      refine TL_nil ?_
      refine T_ret ?_
      refine thenS_ret ?_
      have hr : cutK s k n = (s, 4) := by unfold cutK; rw [hf]; simp [h9]
      rw [hr]
      refine RetQ.gives (rk_close (A := A) (c := c) (ca := ca) b s hok) ?_
      exact RetG_1 (.inl rfl) rfl (ResV.tmp rfl) GivesTo.g (⟨rfl, rfl⟩)
    · refine T_region ?_
      refine TL_y rfl rfl (Y_move rfl) ?_
      refine TL_y rfl rfl (Y_lt rfl rfl) ?_
      refine TL_name 14 (v' := .bool false) rfl (congrArg Value.bool (decide_eq_false (by omega))) ?_
      refine TL_nil ?_
      refine T_cond_false rfl ?_
      refine T_skip ?_
      refine thenS_normal ?_
      refine T_seq ?_
      subst hen
      have hem := List.mem_of_getElem? he
      have hoe := hi.ok e hem
      have hte := tot_mem hem
      have htt := hi.tot
      have hss := hi.size
      have hvs : (viewF e).bytes.size = e.bytes.length := str_size _
      refine T_region ?_
      refine TL_y rfl rfl (Y_move rfl) ?_
      refine TL_both 14 29 (n < 0 ∨ (e.bytes.length : Int) < n) ?_ ?_
      · refine TL_y rfl rfl (Y_lt rfl rfl) ?_
        refine TL_y rfl rfl (Y_move rfl) ?_
        refine TL_splitd 17 rfl (fun h17 => ?_) (fun h17 => ?_)
        · refine TL_gskip rfl rfl rfl rfl ?_
          refine TL_gskip rfl rfl rfl rfl ?_
          refine TL_gskip rfl rfl rfl rfl ?_
          refine TL_gskip rfl rfl rfl rfl ?_
          refine TL_gskip rfl rfl rfl rfl ?_
          refine TL_gskip rfl rfl rfl rfl ?_
          refine TL_gskip rfl rfl rfl rfl ?_
          refine TL_gskip rfl rfl rfl rfl ?_
          refine TL_gskip rfl rfl rfl rfl ?_
          refine TL_gskip rfl rfl rfl rfl ?_
          refine TL_gskip rfl rfl rfl rfl ?_
          refine TL_y rfl rfl (Y_pick_t rfl rfl) ?_
          refine TL_chain_end rfl ?_ (by repeat (first | exact sub_refl | refine sub_ext rfl ?_)) GivesTo.g
          exact congrArg Value.bool (decide_eq_true (by omega)).symm
        · refine TL_grun rfl rfl ?_
          refine TL_y rfl rfl (Y_move rfl) ?_
          refine TL_grun rfl rfl ?_
          refine TL_y rfl rfl (Y_move rfl) ?_
          refine TL_grun rfl rfl ?_
          refine TL_y rfl rfl (Y_nil_check rfl) ?_
          refine TL_grun rfl rfl ?_
          refine TL_y rfl rfl (Y_field_addr rfl) ?_
          refine TL_grun rfl rfl ?_
          refine TL_y rfl rfl (Y_load rfl rfl) ?_
          refine TL_grun rfl rfl ?_
          refine TL_y rfl rfl (Y_move rfl) ?_
          refine TL_grun rfl rfl ?_
          refine TL_index_n rfl rfl rfl (rfl) ((sln (A := A) (c := c) (R := fileR) (xs := VF s))) (vw_get he) ?_
          intro bn24 on24 hA24 hk24
          have hu24 := vw_get he
          refine TL_grun rfl rfl ?_
          refine TL_y rfl rfl (Y_field_addr2 rfl) ?_
          refine TL_grun rfl rfl ?_
          refine TL_y rfl rfl (Y_load_n rfl hk24 hu24 rfl) ?_
          refine TL_grun rfl rfl ?_
          refine TL_y rfl rfl (Y_len_str rfl) ?_
          refine TL_grun rfl rfl ?_
          refine TL_y rfl rfl (Y_gt rfl rfl) ?_
          refine TL_y rfl rfl (Y_pick_f rfl rfl) ?_
          refine TL_chain_end rfl ?_ (by repeat (first | exact sub_refl | refine sub_ext rfl ?_)) GivesTo.g
          exact congrArg Value.bool (decide_eq_decide.2 (by omega))
      refine TL_nil ?_
      refine T_if rfl (fun h29 => ?_) (fun h29 => ?_)
      · refine T_region ?_
        refine TL_y rfl rfl (Y_assign rfl) ?_
        refine TL_nil ?_
        refine T_ret ?_
        refine thenS_ret ?_
        have hr : cutK s e.name n = (s, 1) := by unfold cutK; rw [hf]; simp only; rw [if_neg h9, if_pos h29]
        rw [hr]
        refine RetQ.gives (rk_close (A := A) (c := c) (ca := ca) b s hok) ?_
        exact RetG_1 (.inl rfl) rfl (ResV.tmp rfl) GivesTo.g (⟨rfl, rfl⟩)
      · refine T_skip ?_
        refine thenS_normal ?_
        obtain ⟨m, rfl⟩ : ∃ m : Nat, n = (m : Int) := ⟨n.toNat, by omega⟩
        have hml : m ≤ e.bytes.length := (by omega)
        refine T_focus (A := A) (c := c) (R := fileR) (vw_get he) fun g3 l3 hA3 hl3 => ?_
        subst hA3
        refine T_pull 1 rfl ?_
        refine T_isFile fun hl4 hfo => ?_
        subst hl4
        refine T_region_draw _ [0, 1, 3, 7, 0, 0, 32, 96, 224, 0, 992, 2016, 4064, 0, 16352, 32767, 65535, 131071] [17] [(0, true), (1, true), (2, true), (3, true), (4, true), (5, true), (6, true), (7, true), (8, true), (9, true), (10, true), (11, true), (12, true), (13, true), (14, true), (15, true), (16, true), (17, false)] (by kernel_rfl) (by decide +kernel) (Gives.refl _) ?_
        refine TF_y rfl rfl (Y_move rfl) ?_
        refine TF_y rfl rfl (Y_nil_check rfl) ?_
        refine TF_y rfl rfl (Y_field_addr rfl) ?_
        refine TF_y rfl rfl (Y_load rfl rfl) ?_
        refine TF_y rfl rfl (Y_move rfl) ?_
        refine TF_y rfl rfl (Y_move rfl) ?_
        refine TF_y rfl rfl (Y_nil_check rfl) ?_
        refine TF_y rfl rfl (Y_field_addr rfl) ?_
        refine TF_y rfl rfl (Y_load rfl rfl) ?_
        refine TF_y rfl rfl (Y_move rfl) ?_
        refine TF_y rfl rfl (Y_index_x (R := fileR) (xs := VF s) rfl rfl rfl (vw_get he)) ?_
        refine TF_y rfl rfl (Y_field_addr2 rfl) ?_
        refine TF_y rfl rfl (Y_load_x rfl rfl) ?_
        refine TF_y rfl rfl (Y_move rfl) ?_
        refine TF_y rfl rfl (Y_cut_str (k1 := .i64) (k2 := .i64) rfl (.inl ⟨rfl, rfl⟩) (.inr ⟨_, rfl, rfl⟩) (by omega)) ?_
        refine TF_name 44 (v' := .string (strOfNums (e.bytes.take m))) rfl (congrArg Value.string (str_cut e.bytes m)) ?_
        refine TF_y rfl rfl (Y_index_x (R := fileR) (xs := VF s) rfl rfl rfl (vw_get he)) ?_
        refine TF_y rfl rfl (Y_field_addr2 rfl) ?_
        refine TF_anchor rfl ?_
        refine TL_store_x rfl rfl rfl rfl rfl rfl ?_
        refine TF_end_tail rfl ?_
        refine TF_nil ?_
        refine T_region ?_
        refine TL_y rfl rfl (Y_move rfl) ?_
        refine TL_y rfl rfl (Y_nil_check rfl) ?_
        refine TL_y rfl rfl (Y_field_addr rfl) ?_
        refine TL_y rfl rfl (Y_load rfl rfl) ?_
        refine TL_y rfl rfl (Y_move rfl) ?_
        refine TL_y rfl rfl (Y_move rfl) ?_
        refine TL_y rfl rfl (Y_index_x (R := fileR) (xs := VF s) rfl rfl rfl (vw_get he)) ?_
        refine TL_y rfl rfl (Y_field_addr2 rfl) ?_
        refine TL_store_x rfl rfl rfl rfl rfl rfl ?_
        refine TL_nil ?_
        have hki := hi.change hem (e.bytes.take m) (m : Int) (by rw [List.length_take]; omega) (fun x hx => hoe.2.2.2 x (List.mem_of_mem_take hx)) ⟨by omega, by rw [List.length_take]; omega⟩
        have hsz : (strOfNums (e.bytes.take m)).size ≤ maxEl := (by rw [str_size, List.length_take]; simp only [maxEl]; omega)
        refine T_unx (R := fileR) g3 (viewF ⟨e.name, e.blk, e.bytes.take m, (m : Int)⟩) (Knows.const (file_rep (f := viewF ⟨e.name, e.blk, e.bytes.take m, (m : Int)⟩) ⟨hfo.1, hsz, show intIn .i64 (m : Int) from i64In_mk (by omega)⟩)) ?_
        rw [show (VF s).length = ((VF s).set i (viewF ⟨e.name, e.blk, e.bytes.take m, (m : Int)⟩)).length from (List.length_set ..).symm]
        rw [vw_set (e' := ⟨e.name, e.blk, e.bytes.take m, (m : Int)⟩) hi.inc he rfl]
        refine T_region ?_
        refine TL_y rfl rfl (Y_move rfl) ?_
        refine TL_pullc b ?_
        refine TL_call rfl rfl (rkDid_spec ⟨s.size, s.calls, putF s.l ⟨e.name, e.blk, e.bytes.take m, (m : Int)⟩⟩ hki hok.2.1 hok.2.2 h9) ?_
        rintro _ _ ⟨rfl, rfl⟩
        refine TL_y rfl rfl (Y_assign rfl) ?_
        refine TL_nil ?_
        refine T_ret ?_
        have hr : cutK s e.name (m : Int) = (doneK ⟨s.size, s.calls, putF s.l ⟨e.name, e.blk, e.bytes.take m, (m : Int)⟩⟩, 0) := by unfold cutK; rw [hf]; simp only; rw [if_neg h9, if_neg (by omega)]; rfl
        rw [hr]
        refine RetQ.gives (rk_after (A := some ⟨g3, 0, none⟩) (c := c) (ca := ca) b ⟨s.size, s.calls, putF s.l ⟨e.name, e.blk, e.bytes.take m, (m : Int)⟩⟩ hki hok.2.1 hok.2.2 h9) ?_
        exact RetG_1 (.inl rfl) rfl (ResV.tmp rfl) GivesTo.g (⟨rfl, rfl⟩)
theorem rkRemove_spec {L : List HP} {b : Nat} {s : DkS} (k : ByteArray) : Fn Try.prog 24 #[.pointer (some ⟨b, 0, none⟩), .string k] (rk b s :: L) (fun v L' => v = .int .i64 (removeK s k).2 ∧ L' = rk b (removeK s k).1 :: L) := by
  refine Fn_enter Try.func24 rfl rfl rfl rfl ?_
  refine T_region ?_
  refine TL_y rfl rfl (Y_assign rfl) ?_
  refine TL_nil ?_
  refine T_seq ?_
  refine T_region ?_
  refine TL_y rfl rfl (Y_move rfl) ?_
  refine TL_call rfl rfl (rkOff_spec) ?_
  rintro _ _ ⟨rfl, rfl⟩
  refine TL_nil ?_
  refine T_if rfl (fun h7 => ?_) (fun h7 => ?_)
  · refine T_region ?_
    refine TL_y rfl rfl (Y_assign rfl) ?_
    refine TL_nil ?_
    refine T_ret ?_
    refine thenS_ret ?_
    have hr : removeK s k = (s, 31) := by unfold removeK; cases findF s.l k <;> simp [h7]
    rw [hr]
    exact RetG_1 (.inl rfl) rfl (ResV.tmp rfl) GivesTo.g (⟨rfl, rfl⟩)
  · refine T_skip ?_
    refine thenS_normal ?_
    refine T_rk fun A c ca hok => ?_
    have hi := hok.1
    refine T_region ?_
    refine TL_y rfl rfl (Y_move rfl) ?_
    refine TL_y rfl rfl (Y_move rfl) ?_
    refine TL_call rfl rfl (rkFind_spec k) ?_
    rintro _ _ ⟨⟨r, rfl, hr0⟩, rfl⟩
    refine TL_y rfl rfl (Y_assign rfl) ?_
    refine TL_nil ?_
    refine T_seq ?_
    rcases find_view hi hr0 with ⟨h0, hf⟩ | ⟨i, e, rfl, he, hen, hf⟩
    · refine T_region ?_
      refine TL_y rfl rfl (Y_move rfl) ?_
      refine TL_y rfl rfl (Y_lt rfl rfl) ?_
      refine TL_name 12 (v' := .bool true) rfl (congrArg Value.bool (decide_eq_true h0)) ?_
      refine TL_nil ?_
      refine T_cond_true rfl ?_
      refine T_region ?_
      refine TL_y rfl rfl (Y_assign rfl) ?_
      refine TL_nil ?_
      refine T_ret ?_
      refine thenS_ret ?_
      have hr : removeK s k = (s, 4) := by unfold removeK; rw [hf]; simp [h7]
      rw [hr]
      refine RetQ.gives (rk_close (A := A) (c := c) (ca := ca) b s hok) ?_
      exact RetG_1 (.inl rfl) rfl (ResV.tmp rfl) GivesTo.g (⟨rfl, rfl⟩)
    · refine T_region ?_
      refine TL_y rfl rfl (Y_move rfl) ?_
      refine TL_y rfl rfl (Y_lt rfl rfl) ?_
      refine TL_name 12 (v' := .bool false) rfl (congrArg Value.bool (decide_eq_false (by omega))) ?_
      refine TL_nil ?_
      refine T_cond_false rfl ?_
      refine T_skip ?_
      refine thenS_normal ?_
      subst hen
      have hem := List.mem_of_getElem? he
      have hln := hi.len
      have hil := (List.getElem?_eq_some_iff.1 he).1
      refine T_region ?_
      refine TL_y rfl rfl (Y_move rfl) ?_
      refine TL_y rfl rfl (Y_move rfl) ?_
      refine TL_call rfl rfl (rkDrop_spec (fl := VF s) i (by simpa using hil) (by rw [List.length_map]; omega)) ?_
      rintro _ _ ⟨A15, c15, rfl, rfl⟩
      rw [vw_drop hi.inc he]
      refine TL_nil ?_
      refine T_region ?_
      refine TL_y rfl rfl (Y_move rfl) ?_
      refine TL_call rfl rfl (rkDid_spec ⟨s.size, s.calls, delF s.l e.name⟩ (hi.del e.name) hok.2.1 hok.2.2 h7) ?_
      rintro _ _ ⟨rfl, rfl⟩
      refine TL_y rfl rfl (Y_assign rfl) ?_
      refine TL_nil ?_
      refine T_ret ?_
      have hr : removeK s e.name = (doneK ⟨s.size, s.calls, delF s.l e.name⟩, 0) := by unfold removeK; rw [hf]; simp only; rw [if_neg h7]
      rw [hr]
      refine RetQ.gives (rk_after (A := A15) (c := c15) (ca := ca) b ⟨s.size, s.calls, delF s.l e.name⟩ (hi.del e.name) hok.2.1 hok.2.2 h7) ?_
      exact RetG_1 (.inl rfl) rfl (ResV.tmp rfl) GivesTo.g (⟨rfl, rfl⟩)
theorem rkRead_spec {L : List HP} {b : Nat} {s : DkS} (k : ByteArray) : Fn Try.prog 25 #[.pointer (some ⟨b, 0, none⟩), .string k] (rk b s :: L) (fun v L' => v = .tuple #[.string (match findF s.l k with | some e => strOfNums e.bytes | none => ⟨#[]⟩), .int .i64 (if (findF s.l k).isSome then 0 else 4)] ∧ L' = rk b s :: L) := by
  refine Fn_enter Try.func25 rfl rfl rfl rfl ?_
  refine T_rk fun A c ca hok => ?_
  have hi := hok.1
  refine T_region ?_
  refine TL_y rfl rfl (Y_assign rfl) ?_
  refine TL_y rfl rfl (Y_assign rfl) ?_
  refine TL_nil ?_
  refine T_region ?_
  refine TL_y rfl rfl (Y_move rfl) ?_
  refine TL_y rfl rfl (Y_move rfl) ?_
  refine TL_call rfl rfl (rkFind_spec k) ?_
  rintro _ _ ⟨⟨r, rfl, hr0⟩, rfl⟩
  refine TL_y rfl rfl (Y_assign rfl) ?_
  refine TL_nil ?_
  refine T_seq ?_
  rcases find_view hi hr0 with ⟨h0, hf⟩ | ⟨i, e, rfl, he, hen, hf⟩
  · refine T_region ?_
    refine TL_y rfl rfl (Y_move rfl) ?_
    refine TL_y rfl rfl (Y_lt rfl rfl) ?_
    refine TL_name 11 (v' := .bool true) rfl (congrArg Value.bool (decide_eq_true h0)) ?_
    refine TL_nil ?_
    refine T_cond_true rfl ?_
    refine T_region ?_
    refine TL_y rfl rfl (Y_assign rfl) ?_
    refine TL_y rfl rfl (Y_assign rfl) ?_
    refine TL_nil ?_
    refine T_ret ?_
    refine thenS_ret ?_
    rw [hf]
    refine RetQ.gives (rk_close (A := A) (c := c) (ca := ca) b s hok) ?_
    exact RetG_2 (.inl rfl) rfl (ResV.tmp rfl) (ResV.tmp rfl) GivesTo.g (⟨rfl, rfl⟩)
  · refine T_region ?_
    refine TL_y rfl rfl (Y_move rfl) ?_
    refine TL_y rfl rfl (Y_lt rfl rfl) ?_
    refine TL_name 11 (v' := .bool false) rfl (congrArg Value.bool (decide_eq_false (by omega))) ?_
    refine TL_nil ?_
    refine T_cond_false rfl ?_
    refine T_skip ?_
    refine thenS_normal ?_
    refine T_region ?_
    refine TL_y rfl rfl (Y_move rfl) ?_
    refine TL_y rfl rfl (Y_nil_check rfl) ?_
    refine TL_y rfl rfl (Y_field_addr rfl) ?_
    refine TL_y rfl rfl (Y_load rfl rfl) ?_
    refine TL_y rfl rfl (Y_move rfl) ?_
    refine TL_index_n rfl rfl rfl (rfl) ((sln (A := A) (c := c) (R := fileR) (xs := VF s))) (vw_get he) ?_
    intro bn17 on17 hA17 hk17
    have hu17 := vw_get he
    refine TL_y rfl rfl (Y_field_addr2 rfl) ?_
    refine TL_y rfl rfl (Y_load_n rfl hk17 hu17 rfl) ?_
    refine TL_y rfl rfl (Y_assign rfl) ?_
    refine TL_y rfl rfl (Y_assign rfl) ?_
    refine TL_nil ?_
    refine T_ret ?_
    rw [hf]
    refine RetQ.gives (rk_close (A := A) (c := c) (ca := ca) b s hok) ?_
    exact RetG_2 (.inl rfl) rfl (ResV.tmp rfl) (ResV.tmp rfl) GivesTo.g (⟨rfl, rfl⟩)
end Go.SL
set_option linter.unusedVariables false
set_option linter.unusedSimpArgs false
namespace Go.SL
open Go Go.Proofs
section
variable {P : Program} {E : Env} {L : List HP} {ty t t' : TypeId} {x y : Operand} {a b : ByteArray}
theorem Y_str_add (hx : ev E x = some (.string a)) (hy : ev E y = some (.string b)) (hb : (a.size : Int) + (b.size : Int) ≤ 9223372036854775807) : Yl P E L (.binOp .add t x y t') ty (.string (a ++ b)) := fun n D W ac w dst pos af g ha hs => by
  have h1 : ¬ ((((a.size + b.size : Nat) : Int)) > IntKind.i64.max) := by
    have : IntKind.i64.max = 9223372036854775807 := by decide
    rw [this]; omega
  simp only [execOp, ha.ev hx, ha.ev hy, eqGuard, Go.binOp, Op.stringOp]
  rw [if_neg h1]; rfl
end
theorem rkAppend_spec {L : List HP} {b : Nat} {s : DkS} {A0 : Option Addr} {c0 : Nat} {xs : List Int} (k : ByteArray) (blk : Nat) (hk : k.size ≤ maxEl) (hx : SlN L (intR .u8) A0 c0 xs) (hxb : ∀ x ∈ xs, 0 ≤ x ∧ x ≤ 255) (hxl : xs.length ≤ maxEl) : Fn Try.prog 18 #[.pointer (some ⟨b, 0, none⟩), .string k, .slice A0 xs.length c0] (rk b s :: L) (fun v L' => v = .int .i64 (appendK s k xs blk).2 ∧ L' = rk b (appendK s k xs blk).1 :: L) := by
  refine Fn_enter Try.func18 rfl rfl rfl rfl ?_
  refine T_region ?_
  refine TL_y rfl rfl (Y_assign rfl) ?_
  refine TL_nil ?_
  refine T_seq ?_
  refine T_region ?_
  refine TL_y rfl rfl (Y_move rfl) ?_
  refine TL_call rfl rfl (refName_spec _ k hk) ?_
  rintro _ _ ⟨rfl, rfl⟩
  refine TL_y rfl rfl (Y_not_d rfl) ?_
  refine TL_nil ?_
  refine T_if rfl (fun h10 => ?_) (fun h10 => ?_)
  · refine T_region ?_
    refine TL_y rfl rfl (Y_assign rfl) ?_
    refine TL_nil ?_
    refine T_ret ?_
    refine thenS_ret ?_
    have hr : appendK s k xs blk = (s, 30) := by unfold appendK; rw [if_pos (by simpa using h10)]
    rw [hr]
    exact RetG_1 (.inl rfl) rfl (ResV.tmp rfl) GivesTo.g (⟨rfl, rfl⟩)
  · refine T_skip ?_
    refine thenS_normal ?_
    refine T_seq ?_
    have hnm : isName k := by simpa using h10
    refine T_region ?_
    refine TL_y rfl rfl (Y_move rfl) ?_
    refine TL_call rfl rfl (rkOff_spec) ?_
    rintro _ _ ⟨rfl, rfl⟩
    refine TL_nil ?_
    refine T_if rfl (fun h12 => ?_) (fun h12 => ?_)
    · refine T_region ?_
      refine TL_y rfl rfl (Y_assign rfl) ?_
      refine TL_nil ?_
      refine T_ret ?_
      refine thenS_ret ?_
      have hr : appendK s k xs blk = (s, 31) := by unfold appendK; rw [if_neg (fun h => h hnm), if_pos h12]
      rw [hr]
      exact RetG_1 (.inl rfl) rfl (ResV.tmp rfl) GivesTo.g (⟨rfl, rfl⟩)
    · refine T_skip ?_
      refine thenS_normal ?_
      refine T_rkI fun hi0 => ?_
      have hap := hi0.append k xs blk hxb
      refine T_rk fun A c ca hok => ?_
      have hi := hok.1
      have htt := hi.tot
      have hss := hi.size
      have htv : totD (VF s) = totF s.l := totD_view s.l
      have hln := hi.len
      have hvl : (VF s).length = s.l.length := List.length_map _
      refine T_region ?_
      refine TL_y rfl rfl (Y_move rfl) ?_
      refine TL_y rfl rfl (Y_move rfl) ?_
      refine TL_call rfl rfl (rkFind_spec k) ?_
      rintro _ _ ⟨⟨r, rfl, hr0⟩, rfl⟩
      refine TL_y rfl rfl (Y_assign rfl) ?_
      refine TL_nil ?_
      refine T_seq ?_
      rcases find_view hi hr0 with ⟨h0, hf⟩ | ⟨i, e, rfl, he, hen, hf⟩ <;> rcases Classical.em (leftK s < (xs.length : Int) ∨ (findF s.l k = none ∧ 64 ≤ s.l.length)) with hle | hle
      · refine T_region ?_
        refine TL_y rfl rfl (Y_move rfl) ?_
        refine TL_y rfl rfl (Y_len rfl) ?_
        refine TL_y rfl rfl (Y_move rfl) ?_
        refine TL_call rfl rfl (rkLeft_spec hss (by omega)) ?_
        rintro _ _ ⟨rfl, rfl⟩
        refine TL_name 19 (v' := .int .i64 (leftK s)) rfl (by unfold leftK; rw [htv]) ?_
        refine TL_y rfl rfl (Y_gt rfl rfl) ?_
        refine TL_y rfl rfl (Y_move rfl) ?_
        refine TL_splitd 21 rfl (fun h21 => ?_) (fun h21 => ?_)
        · refine TL_gskip rfl rfl rfl rfl ?_
          refine TL_gskip rfl rfl rfl rfl ?_
          refine TL_gskip rfl rfl rfl rfl ?_
          refine TL_gskip_u rfl rfl rfl ?_
          refine TL_gskip_u rfl rfl rfl ?_
          refine TL_gskip_u rfl rfl rfl ?_
          refine TL_gskip_u rfl rfl rfl ?_
          refine TL_gskip_u rfl rfl rfl ?_
          refine TL_gskip_u rfl rfl rfl ?_
          refine TL_gskip rfl rfl rfl rfl ?_
          refine TL_y rfl rfl (Y_pick_t rfl rfl) ?_
          refine TL_nil ?_
          refine T_cond_true rfl ?_
          refine T_region ?_
          refine TL_y rfl rfl (Y_assign rfl) ?_
          refine TL_nil ?_
          refine T_ret ?_
          refine thenS_ret ?_
          have hr : appendK s k xs blk = (s, 2) := by unfold appendK; rw [if_neg (fun h => h hnm), if_neg h12, if_pos hle]
          rw [hr]
          refine RetQ.gives (rk_close (A := A) (c := c) (ca := ca) b s hok) ?_
          exact RetG_1 (.inl rfl) rfl (ResV.tmp rfl) GivesTo.g (⟨rfl, rfl⟩)
        · refine TL_grun rfl rfl ?_
          refine TL_y rfl rfl (Y_move rfl) ?_
          refine TL_grun rfl rfl ?_
          refine TL_y rfl rfl (Y_lt rfl rfl) ?_
          refine TL_name 23 (v' := .bool true) rfl (congrArg Value.bool (decide_eq_true h0)) ?_
          refine TL_grun rfl rfl ?_
          refine TL_y rfl rfl (Y_move rfl) ?_
          refine TL_grun rfl rfl ?_
          refine TL_y rfl rfl (Y_move rfl) ?_
          refine TL_grun rfl rfl ?_
          refine TL_y rfl rfl (Y_nil_check rfl) ?_
          refine TL_grun rfl rfl ?_
          refine TL_y rfl rfl (Y_field_addr rfl) ?_
          refine TL_grun rfl rfl ?_
          refine TL_y rfl rfl (Y_load rfl rfl) ?_
          refine TL_grun rfl rfl ?_
          refine TL_y rfl rfl (Y_len rfl) ?_
          refine TL_name 29 (v' := .int .i64 (s.l.length : Int)) rfl (by rw [hvl]) ?_
          refine TL_grun rfl rfl ?_
          refine TL_y rfl rfl (Y_ge rfl rfl) ?_
          refine TL_name 30 (v' := .bool true) rfl (congrArg Value.bool (decide_eq_true (by rcases hle with h | h; omega; (have := h.2; omega)))) ?_
          refine TL_grun rfl rfl ?_
          refine TL_y rfl rfl (Y_pick_t rfl rfl) ?_
          refine TL_y rfl rfl (Y_pick_f rfl rfl) ?_
          refine TL_nil ?_
          refine T_cond_true rfl ?_
          refine T_region ?_
          refine TL_y rfl rfl (Y_assign rfl) ?_
          refine TL_nil ?_
          refine T_ret ?_
          refine thenS_ret ?_
          have hr : appendK s k xs blk = (s, 2) := by unfold appendK; rw [if_neg (fun h => h hnm), if_neg h12, if_pos hle]
          rw [hr]
          refine RetQ.gives (rk_close (A := A) (c := c) (ca := ca) b s hok) ?_
          exact RetG_1 (.inl rfl) rfl (ResV.tmp rfl) GivesTo.g (⟨rfl, rfl⟩)
      · refine T_region ?_
        refine TL_y rfl rfl (Y_move rfl) ?_
        refine TL_y rfl rfl (Y_len rfl) ?_
        refine TL_y rfl rfl (Y_move rfl) ?_
        refine TL_call rfl rfl (rkLeft_spec hss (by omega)) ?_
        rintro _ _ ⟨rfl, rfl⟩
        refine TL_name 19 (v' := .int .i64 (leftK s)) rfl (by unfold leftK; rw [htv]) ?_
        refine TL_y rfl rfl (Y_gt rfl rfl) ?_
        refine TL_name 20 (v' := .bool false) rfl (congrArg Value.bool (decide_eq_false (fun h => hle (.inl h)))) ?_
        refine TL_y rfl rfl (Y_move rfl) ?_
        refine TL_grun rfl rfl ?_
        refine TL_y rfl rfl (Y_move rfl) ?_
        refine TL_grun rfl rfl ?_
        refine TL_y rfl rfl (Y_lt rfl rfl) ?_
        refine TL_name 23 (v' := .bool true) rfl (congrArg Value.bool (decide_eq_true h0)) ?_
        refine TL_grun rfl rfl ?_
        refine TL_y rfl rfl (Y_move rfl) ?_
        refine TL_grun rfl rfl ?_
        refine TL_y rfl rfl (Y_move rfl) ?_
        refine TL_grun rfl rfl ?_
        refine TL_y rfl rfl (Y_nil_check rfl) ?_
        refine TL_grun rfl rfl ?_
        refine TL_y rfl rfl (Y_field_addr rfl) ?_
        refine TL_grun rfl rfl ?_
        refine TL_y rfl rfl (Y_load rfl rfl) ?_
        refine TL_grun rfl rfl ?_
        refine TL_y rfl rfl (Y_len rfl) ?_
        refine TL_name 29 (v' := .int .i64 (s.l.length : Int)) rfl (by rw [hvl]) ?_
        refine TL_grun rfl rfl ?_
        refine TL_y rfl rfl (Y_ge rfl rfl) ?_
        refine TL_name 30 (v' := .bool false) rfl (congrArg Value.bool (decide_eq_false (fun h => hle (.inr ⟨hf, by omega⟩)))) ?_
        refine TL_grun rfl rfl ?_
        refine TL_y rfl rfl (Y_pick_t rfl rfl) ?_
        refine TL_y rfl rfl (Y_pick_f rfl rfl) ?_
        refine TL_nil ?_
        refine T_cond_false rfl ?_
        refine T_skip ?_
        refine thenS_normal ?_
        refine T_seq ?_
        refine T_region ?_
        refine TL_y rfl rfl (Y_move rfl) ?_
        refine TL_y rfl rfl (Y_lt rfl rfl) ?_
        refine TL_name 34 (v' := .bool true) rfl (congrArg Value.bool (decide_eq_true h0)) ?_
        refine TL_nil ?_
        refine T_cond_true rfl ?_
        have hr : appendK s k xs blk = (doneK ⟨s.size, s.calls, putF s.l ⟨k, blk, xs, 0⟩⟩, 0) := (by unfold appendK; rw [if_neg (fun h => h hnm), if_neg h12, if_neg hle, hf])
        rw [hr] at hap
        have hki : KI ⟨s.size, s.calls, putF s.l ⟨k, blk, xs, 0⟩⟩ := ⟨hi.size, hi.calls, hap.inc, hap.len, hap.tot, hap.ok⟩
        have hfo : fileOk ⟨k, strOfNums xs, 0⟩ := ⟨hk, by rw [str_size]; exact hxl, show intIn .i64 (0 : Int) by decide⟩
        refine T_region ?_
        refine TL_y rfl rfl (Y_move rfl) ?_
        refine TL_y rfl rfl (Y_move rfl) ?_
        refine TL_y rfl rfl (Y_move rfl) ?_
        refine TL_y rfl rfl (Y_bytes_strN rfl hx.tail.tail) ?_
        refine TL_y rfl rfl (Y_build rfl rfl) ?_
        refine TL_call rfl rfl (rkPut_spec (fl := VF s) ⟨k, strOfNums xs, 0⟩ hfo (by omega)) ?_
        rintro _ _ ⟨A40, c40, rfl, rfl⟩
        rw [show putD3 (VF s) ⟨k, strOfNums xs, 0⟩ = (putF s.l ⟨k, blk, xs, 0⟩).map viewF from vw_put ⟨k, blk, xs, 0⟩ hf]
        refine TL_nil ?_
        refine T_region ?_
        refine TL_y rfl rfl (Y_move rfl) ?_
        refine TL_call rfl rfl (rkDid_spec ⟨s.size, s.calls, putF s.l ⟨k, blk, xs, 0⟩⟩ hki hok.2.1 hok.2.2 h12) ?_
        rintro _ _ ⟨rfl, rfl⟩
        refine TL_y rfl rfl (Y_assign rfl) ?_
        refine TL_nil ?_
        refine T_ret ?_
        refine thenS_ret ?_
        rw [hr]
        refine RetQ.gives (rk_after (A := A40) (c := c40) (ca := ca) b ⟨s.size, s.calls, putF s.l ⟨k, blk, xs, 0⟩⟩ hki hok.2.1 hok.2.2 h12) ?_
        exact RetG_1 (.inl rfl) rfl (ResV.tmp rfl) GivesTo.g (⟨rfl, rfl⟩)
      · refine T_region ?_
        refine TL_y rfl rfl (Y_move rfl) ?_
        refine TL_y rfl rfl (Y_len rfl) ?_
        refine TL_y rfl rfl (Y_move rfl) ?_
        refine TL_call rfl rfl (rkLeft_spec hss (by omega)) ?_
        rintro _ _ ⟨rfl, rfl⟩
        refine TL_name 19 (v' := .int .i64 (leftK s)) rfl (by unfold leftK; rw [htv]) ?_
        refine TL_y rfl rfl (Y_gt rfl rfl) ?_
        refine TL_name 20 (v' := .bool true) rfl (congrArg Value.bool (decide_eq_true (by rcases hle with h | h; exact h; (rw [hf] at h; cases h.1)))) ?_
        refine TL_y rfl rfl (Y_move rfl) ?_
        refine TL_gskip rfl rfl rfl rfl ?_
        refine TL_gskip rfl rfl rfl rfl ?_
        refine TL_gskip rfl rfl rfl rfl ?_
        refine TL_gskip_u rfl rfl rfl ?_
        refine TL_gskip_u rfl rfl rfl ?_
        refine TL_gskip_u rfl rfl rfl ?_
        refine TL_gskip_u rfl rfl rfl ?_
        refine TL_gskip_u rfl rfl rfl ?_
        refine TL_gskip_u rfl rfl rfl ?_
        refine TL_gskip rfl rfl rfl rfl ?_
        refine TL_y rfl rfl (Y_pick_t rfl rfl) ?_
        refine TL_nil ?_
        refine T_cond_true rfl ?_
        refine T_region ?_
        refine TL_y rfl rfl (Y_assign rfl) ?_
        refine TL_nil ?_
        refine T_ret ?_
        refine thenS_ret ?_
        have hr : appendK s k xs blk = (s, 2) := by unfold appendK; rw [if_neg (fun h => h hnm), if_neg h12, if_pos hle]
        rw [hr]
        refine RetQ.gives (rk_close (A := A) (c := c) (ca := ca) b s hok) ?_
        exact RetG_1 (.inl rfl) rfl (ResV.tmp rfl) GivesTo.g (⟨rfl, rfl⟩)
      · refine T_region ?_
        refine TL_y rfl rfl (Y_move rfl) ?_
        refine TL_y rfl rfl (Y_len rfl) ?_
        refine TL_y rfl rfl (Y_move rfl) ?_
        refine TL_call rfl rfl (rkLeft_spec hss (by omega)) ?_
        rintro _ _ ⟨rfl, rfl⟩
        refine TL_name 19 (v' := .int .i64 (leftK s)) rfl (by unfold leftK; rw [htv]) ?_
        refine TL_y rfl rfl (Y_gt rfl rfl) ?_
        refine TL_name 20 (v' := .bool false) rfl (congrArg Value.bool (decide_eq_false (fun h => hle (.inl h)))) ?_
        refine TL_y rfl rfl (Y_move rfl) ?_
        refine TL_grun rfl rfl ?_
        refine TL_y rfl rfl (Y_move rfl) ?_
        refine TL_grun rfl rfl ?_
        refine TL_y rfl rfl (Y_lt rfl rfl) ?_
        refine TL_name 23 (v' := .bool false) rfl (congrArg Value.bool (decide_eq_false (by omega))) ?_
        refine TL_grun rfl rfl ?_
        refine TL_y rfl rfl (Y_move rfl) ?_
        refine TL_gskip rfl rfl rfl rfl ?_
        refine TL_gskip rfl rfl rfl rfl ?_
        refine TL_gskip rfl rfl rfl rfl ?_
        refine TL_gskip rfl rfl rfl rfl ?_
        refine TL_gskip rfl rfl rfl rfl ?_
        refine TL_gskip rfl rfl rfl rfl ?_
        refine TL_grun rfl rfl ?_
        refine TL_y rfl rfl (Y_pick_f rfl rfl) ?_
        refine TL_y rfl rfl (Y_pick_f rfl rfl) ?_
        refine TL_nil ?_
        refine T_cond_false rfl ?_
        refine T_skip ?_
        refine thenS_normal ?_
        refine T_seq ?_
        refine T_region ?_
        refine TL_y rfl rfl (Y_move rfl) ?_
        refine TL_y rfl rfl (Y_lt rfl rfl) ?_
        refine TL_name 34 (v' := .bool false) rfl (congrArg Value.bool (decide_eq_false (by omega))) ?_
        refine TL_nil ?_
        refine T_cond_false rfl ?_
        refine T_skip ?_
        refine thenS_normal ?_
        subst hen
        have hem := List.mem_of_getElem? he
        have hoe := hi.ok e hem
        have hte := tot_mem hem
        have hvs : (viewF e).bytes.size = e.bytes.length := str_size _
        have hxs := str_size xs
        have hlt : (xs.length : Int) ≤ leftK s := (by have := fun h => hle (.inl h); omega)
        have hlk : leftK s ≤ s.size := (by unfold leftK; omega)
        have hr : appendK s e.name xs blk = (doneK ⟨s.size, s.calls, putF s.l ⟨e.name, e.blk, e.bytes ++ xs, e.synced⟩⟩, 0) := (by unfold appendK; rw [if_neg (fun h => h hnm), if_neg h12, if_neg hle, hf])
        rw [hr] at hap
        have hki : KI ⟨s.size, s.calls, putF s.l ⟨e.name, e.blk, e.bytes ++ xs, e.synced⟩⟩ := ⟨hi.size, hi.calls, hap.inc, hap.len, hap.tot, hap.ok⟩
        have hsz : (strOfNums (e.bytes ++ xs)).size ≤ maxEl := (by rw [str_size, List.length_append]; simp only [maxEl]; omega)
        refine T_focus (A := A) (c := c) (R := fileR) (vw_get he) fun g3 l3 hA3 hl3 => ?_
        subst hA3
        refine T_pull 1 rfl ?_
        refine T_isFile fun hl4 hfo => ?_
        subst hl4
        refine T_region_draw _ [0, 1, 3, 7, 0, 0, 32, 96, 224, 0, 992, 2016, 4064, 0, 8192, 32736, 65535, 131071, 262143] [18] [(0, true), (1, true), (2, true), (3, true), (4, true), (5, true), (6, true), (7, true), (8, true), (9, true), (10, true), (11, true), (12, true), (13, true), (14, true), (15, true), (16, true), (17, true), (18, false)] (by kernel_rfl) (by decide +kernel) (Gives.refl _) ?_
        refine TF_y rfl rfl (Y_move rfl) ?_
        refine TF_y rfl rfl (Y_nil_check rfl) ?_
        refine TF_y rfl rfl (Y_field_addr rfl) ?_
        refine TF_y rfl rfl (Y_load rfl rfl) ?_
        refine TF_y rfl rfl (Y_move rfl) ?_
        refine TF_y rfl rfl (Y_move rfl) ?_
        refine TF_y rfl rfl (Y_nil_check rfl) ?_
        refine TF_y rfl rfl (Y_field_addr rfl) ?_
        refine TF_y rfl rfl (Y_load rfl rfl) ?_
        refine TF_y rfl rfl (Y_move rfl) ?_
        refine TF_y rfl rfl (Y_index_x (R := fileR) (xs := VF s) rfl rfl rfl (vw_get he)) ?_
        refine TF_y rfl rfl (Y_field_addr2 rfl) ?_
        refine TF_y rfl rfl (Y_load_x rfl rfl) ?_
        refine TF_y rfl rfl (Y_move rfl) ?_
        refine TF_y rfl rfl (Y_bytes_strN rfl hx.tail.tail) ?_
        refine TF_y rfl rfl (Y_str_add rfl rfl (by omega)) ?_
        refine TF_name 58 (v' := .string (strOfNums (e.bytes ++ xs))) rfl (by rw [str_app]; rfl) ?_
        refine TF_y rfl rfl (Y_index_x (R := fileR) (xs := VF s) rfl rfl rfl (vw_get he)) ?_
        refine TF_y rfl rfl (Y_field_addr2 rfl) ?_
        refine TF_anchor rfl ?_
        refine TL_store_x rfl rfl rfl rfl rfl rfl ?_
        refine TF_end_tail rfl ?_
        refine TF_nil ?_
        refine T_unx (R := fileR) g3 (viewF ⟨e.name, e.blk, e.bytes ++ xs, e.synced⟩) (Knows.const (file_rep (f := viewF ⟨e.name, e.blk, e.bytes ++ xs, e.synced⟩) ⟨hfo.1, hsz, hfo.2.2⟩)) ?_
        rw [show (VF s).length = ((VF s).set i (viewF ⟨e.name, e.blk, e.bytes ++ xs, e.synced⟩)).length from (List.length_set ..).symm]
        rw [vw_set (e' := ⟨e.name, e.blk, e.bytes ++ xs, e.synced⟩) hi.inc he rfl]
        refine T_region ?_
        refine TL_y rfl rfl (Y_move rfl) ?_
        refine TL_pullc b ?_
        refine TL_call rfl rfl (rkDid_spec ⟨s.size, s.calls, putF s.l ⟨e.name, e.blk, e.bytes ++ xs, e.synced⟩⟩ hki hok.2.1 hok.2.2 h12) ?_
        rintro _ _ ⟨rfl, rfl⟩
        refine TL_y rfl rfl (Y_assign rfl) ?_
        refine TL_nil ?_
        refine T_ret ?_
        rw [hr]
        refine RetQ.gives (rk_after (A := some ⟨g3, 0, none⟩) (c := c) (ca := ca) b ⟨s.size, s.calls, putF s.l ⟨e.name, e.blk, e.bytes ++ xs, e.synced⟩⟩ hki hok.2.1 hok.2.2 h12) ?_
        exact RetG_1 (.inl rfl) rfl (ResV.tmp rfl) GivesTo.g (⟨rfl, rfl⟩)
theorem find_delF (l : List FileE) (k : ByteArray) : findF (delF l k) k = none := findF_none.2 fun e he => (mem_delF.1 he).2
theorem putF_del (l : List FileE) (e : FileE) : putF (delF l e.name) e = putF l e := by unfold putF; rw [delF_idem]
theorem rkRename_spec {L : List HP} {b : Nat} {s : DkS} (k to_ : ByteArray) (hk : k.size ≤ maxEl) (hk2 : to_.size ≤ maxEl) : Fn Try.prog 23 #[.pointer (some ⟨b, 0, none⟩), .string k, .string to_] (rk b s :: L) (fun v L' => v = .int .i64 (renameK s k to_).2 ∧ L' = rk b (renameK s k to_).1 :: L) := by
  refine Fn_enter Try.func23 rfl rfl rfl rfl ?_
  refine T_region ?_
  refine TL_y rfl rfl (Y_assign rfl) ?_
  refine TL_nil ?_
  refine T_seq ?_
  refine T_region ?_
  refine TL_y rfl rfl (Y_move rfl) ?_
  refine TL_call rfl rfl (refName_spec _ to_ hk2) ?_
  rintro _ _ ⟨rfl, rfl⟩
  refine TL_y rfl rfl (Y_not_d rfl) ?_
  refine TL_nil ?_
  refine T_if rfl (fun h12 => ?_) (fun h12 => ?_)
  · refine T_region ?_
    refine TL_y rfl rfl (Y_assign rfl) ?_
    refine TL_nil ?_
    refine T_ret ?_
    refine thenS_ret ?_
    have hr : renameK s k to_ = (s, 30) := by unfold renameK; rw [if_pos (by simpa using h12)]
    rw [hr]
    exact RetG_1 (.inl rfl) rfl (ResV.tmp rfl) GivesTo.g (⟨rfl, rfl⟩)
  · refine T_skip ?_
    refine thenS_normal ?_
    refine T_seq ?_
    have hnm : isName to_ := by simpa using h12
    refine T_region ?_
    refine TL_y rfl rfl (Y_move rfl) ?_
    refine TL_call rfl rfl (rkOff_spec) ?_
    rintro _ _ ⟨rfl, rfl⟩
    refine TL_nil ?_
    refine T_if rfl (fun h14 => ?_) (fun h14 => ?_)
    · refine T_region ?_
      refine TL_y rfl rfl (Y_assign rfl) ?_
      refine TL_nil ?_
      refine T_ret ?_
      refine thenS_ret ?_
      have hr : renameK s k to_ = (s, 31) := by unfold renameK; rw [if_neg (fun h => h hnm)]; cases findF s.l k <;> simp [h14]
      rw [hr]
      exact RetG_1 (.inl rfl) rfl (ResV.tmp rfl) GivesTo.g (⟨rfl, rfl⟩)
    · refine T_skip ?_
      refine thenS_normal ?_
      refine T_rkI fun hi0 => ?_
      have hap := hi0.rename k to_
      refine T_rk fun A c ca hok => ?_
      have hi := hok.1
      have hln := hi.len
      refine T_region ?_
      refine TL_y rfl rfl (Y_move rfl) ?_
      refine TL_y rfl rfl (Y_move rfl) ?_
      refine TL_call rfl rfl (rkFind_spec k) ?_
      rintro _ _ ⟨⟨r, rfl, hr0⟩, rfl⟩
      refine TL_y rfl rfl (Y_assign rfl) ?_
      refine TL_nil ?_
      refine T_seq ?_
      rcases find_view hi hr0 with ⟨h0, hf⟩ | ⟨i, e, rfl, he, hen, hf⟩
      · refine T_region ?_
        refine TL_y rfl rfl (Y_move rfl) ?_
        refine TL_y rfl rfl (Y_lt rfl rfl) ?_
        refine TL_name 19 (v' := .bool true) rfl (congrArg Value.bool (decide_eq_true h0)) ?_
        refine TL_nil ?_
        refine T_cond_true rfl ?_
        refine T_region ?_
        refine TL_y rfl rfl (Y_assign rfl) ?_
        refine TL_nil ?_
        refine T_ret ?_
        refine thenS_ret ?_
        have hr : renameK s k to_ = (s, 4) := by unfold renameK; rw [if_neg (fun h => h hnm), hf]; simp [h14]
        rw [hr]
        refine RetQ.gives (rk_close (A := A) (c := c) (ca := ca) b s hok) ?_
        exact RetG_1 (.inl rfl) rfl (ResV.tmp rfl) GivesTo.g (⟨rfl, rfl⟩)
      · refine T_region ?_
        refine TL_y rfl rfl (Y_move rfl) ?_
        refine TL_y rfl rfl (Y_lt rfl rfl) ?_
        refine TL_name 19 (v' := .bool false) rfl (congrArg Value.bool (decide_eq_false (by omega))) ?_
        refine TL_nil ?_
        refine T_cond_false rfl ?_
        refine T_skip ?_
        refine thenS_normal ?_
        subst hen
        have hem := List.mem_of_getElem? he
        have hil := (List.getElem?_eq_some_iff.1 he).1
        have hvo := view_ok hi hem
        have hdl := delF_len hi.inc hem
        have hid := hi.del e.name
        have hr : renameK s e.name to_ = (doneK ⟨s.size, s.calls, putF (delF s.l e.name) ⟨to_, e.blk, e.bytes, e.synced⟩⟩, 0) := (by unfold renameK; rw [if_neg (fun h => h hnm), hf]; simp only; rw [if_neg h14])
        rw [hr] at hap
        have hki : KI ⟨s.size, s.calls, putF (delF s.l e.name) ⟨to_, e.blk, e.bytes, e.synced⟩⟩ := ⟨hi.size, hi.calls, hap.inc, hap.len, hap.tot, hap.ok⟩
        have hfo : fileOk ⟨to_, strOfNums e.bytes, e.synced⟩ := ⟨hk2, hvo.2.1, hvo.2.2⟩
        refine T_region ?_
        refine TL_y rfl rfl (Y_move rfl) ?_
        refine TL_y rfl rfl (Y_nil_check rfl) ?_
        refine TL_y rfl rfl (Y_field_addr rfl) ?_
        refine TL_y rfl rfl (Y_load rfl rfl) ?_
        refine TL_y rfl rfl (Y_move rfl) ?_
        refine TL_index_n rfl rfl rfl (rfl) ((sln (A := A) (c := c) (R := fileR) (xs := VF s))) (vw_get he) ?_
        intro bn25 on25 hA25 hk25
        have hu25 := vw_get he
        refine TL_y rfl rfl (Y_load_naf (R := fileR) (c := c) (xs := VF s) (q := 0) (vs := fileC (viewF e)) rfl hk25 hu25 rfl) ?_
        refine TL_alloc rfl rfl ?_
        intro b8
        refine TL_store rfl rfl rfl rfl rfl rfl ?_
        refine TL_nil ?_
        refine T_region ?_
        refine TL_y rfl rfl (Y_move rfl) ?_
        refine TL_y rfl rfl (Y_move rfl) ?_
        refine TL_gives (show Gives _ (rkC b s.size A (VF s).length c (decide (s.calls ≠ -1)) ca :: osl fileR 40 A c (VF s) :: cells b8 (fileC (viewF e)) 40 :: L) from GivesTo.g) ?_
        refine TL_call rfl rfl (rkDrop_spec (fl := VF s) i (by simpa using hil) (by rw [List.length_map]; omega)) ?_
        rintro _ _ ⟨A29, c29, rfl, rfl⟩
        rw [vw_drop hi.inc he]
        refine TL_nil ?_
        refine T_seq ?_
        refine T_region ?_
        refine TL_y rfl rfl (Y_move rfl) ?_
        refine TL_y rfl rfl (Y_move rfl) ?_
        refine TL_call rfl rfl (rkFind_spec (fl := (delF s.l e.name).map viewF) to_) ?_
        rintro _ _ ⟨⟨r2, rfl, hr2⟩, rfl⟩
        refine TL_y rfl rfl (Y_assign rfl) ?_
        refine TL_nil ?_
        rcases find_view (s := ⟨s.size, s.calls, delF s.l e.name⟩) hid hr2 with ⟨h0, hf2⟩ | ⟨i2, e2, rfl, he2, hen2, hf2⟩
        · refine T_region ?_
          refine TL_y rfl rfl (Y_move rfl) ?_
          refine TL_y rfl rfl (Y_ge rfl rfl) ?_
          refine TL_name 34 (v' := .bool false) rfl (congrArg Value.bool (decide_eq_false (by omega))) ?_
          refine TL_nil ?_
          refine T_cond_false rfl ?_
          refine T_skip ?_
          refine thenS_normal ?_
          refine T_region ?_
          refine TL_y rfl rfl (Y_move rfl) ?_
          refine TL_y rfl rfl (Y_field_addr rfl) ?_
          refine TL_store rfl rfl rfl rfl rfl rfl ?_
          refine TL_nil ?_
          refine T_region ?_
          refine TL_y rfl rfl (Y_move rfl) ?_
          refine TL_y rfl rfl (Y_load_agg rfl rfl) ?_
          refine TL_gives (show Gives _ (rkC b s.size A29 ((delF s.l e.name).map viewF).length c29 (decide (s.calls ≠ -1)) ca :: osl fileR 40 A29 c29 ((delF s.l e.name).map viewF) :: L) from GivesTo.g) ?_
          refine TL_call rfl rfl (rkPut_spec (fl := (delF s.l e.name).map viewF) ⟨to_, strOfNums e.bytes, e.synced⟩ hfo (by rw [List.length_map]; omega)) ?_
          rintro _ _ ⟨A42, c42, rfl, rfl⟩
          rw [show putD3 ((delF s.l e.name).map viewF) ⟨to_, strOfNums e.bytes, e.synced⟩ = (putF (delF s.l e.name) ⟨to_, e.blk, e.bytes, e.synced⟩).map viewF from vw_put ⟨to_, e.blk, e.bytes, e.synced⟩ hf2]
          refine TL_nil ?_
          refine T_region ?_
          refine TL_y rfl rfl (Y_move rfl) ?_
          refine TL_call rfl rfl (rkDid_spec ⟨s.size, s.calls, putF (delF s.l e.name) ⟨to_, e.blk, e.bytes, e.synced⟩⟩ hki hok.2.1 hok.2.2 h14) ?_
          rintro _ _ ⟨rfl, rfl⟩
          refine TL_y rfl rfl (Y_assign rfl) ?_
          refine TL_nil ?_
          refine T_ret ?_
          rw [hr]
          refine RetQ.gives (rk_after (A := A42) (c := c42) (ca := ca) b ⟨s.size, s.calls, putF (delF s.l e.name) ⟨to_, e.blk, e.bytes, e.synced⟩⟩ hki hok.2.1 hok.2.2 h14) ?_
          exact RetG_1 (.inl rfl) rfl (ResV.tmp rfl) GivesTo.g (⟨rfl, rfl⟩)
        · refine T_region ?_
          refine TL_y rfl rfl (Y_move rfl) ?_
          refine TL_y rfl rfl (Y_ge rfl rfl) ?_
          refine TL_name 34 (v' := .bool true) rfl (congrArg Value.bool (decide_eq_true (by omega))) ?_
          refine TL_nil ?_
          refine T_cond_true rfl ?_
          subst hen2
          have hil2 := (List.getElem?_eq_some_iff.1 he2).1
          refine T_region_last ?_
          refine TL_y rfl rfl (Y_move rfl) ?_
          refine TL_y rfl rfl (Y_move rfl) ?_
          refine TL_call rfl rfl (rkDrop_spec (fl := (delF s.l e.name).map viewF) i2 (by rw [List.length_map]; exact hil2) (by rw [List.length_map]; omega)) ?_
          rintro _ _ ⟨A37, c37, rfl, rfl⟩
          rw [vw_drop (s := ⟨s.size, s.calls, delF s.l e.name⟩) hid.inc he2]
          refine TL_nil ?_
          refine thenS_normal ?_
          refine T_region ?_
          refine TL_y rfl rfl (Y_move rfl) ?_
          refine TL_y rfl rfl (Y_field_addr rfl) ?_
          refine TL_store rfl rfl rfl rfl rfl rfl ?_
          refine TL_nil ?_
          refine T_region ?_
          refine TL_y rfl rfl (Y_move rfl) ?_
          refine TL_y rfl rfl (Y_load_agg rfl rfl) ?_
          refine TL_gives (show Gives _ (rkC b s.size A37 ((delF (delF s.l e.name) e2.name).map viewF).length c37 (decide (s.calls ≠ -1)) ca :: osl fileR 40 A37 c37 ((delF (delF s.l e.name) e2.name).map viewF) :: L) from GivesTo.g) ?_
          refine TL_call rfl rfl (rkPut_spec (fl := (delF (delF s.l e.name) e2.name).map viewF) ⟨e2.name, strOfNums e.bytes, e.synced⟩ hfo (by rw [List.length_map]; have := delF_le (l := delF s.l e.name) e2.name; omega)) ?_
          rintro _ _ ⟨A42, c42, rfl, rfl⟩
          rw [show putD3 ((delF (delF s.l e.name) e2.name).map viewF) ⟨e2.name, strOfNums e.bytes, e.synced⟩ = (putF (delF s.l e.name) ⟨e2.name, e.blk, e.bytes, e.synced⟩).map viewF from (vw_put ⟨e2.name, e.blk, e.bytes, e.synced⟩ (find_delF _ _)).trans (by rw [show putF (delF (delF s.l e.name) e2.name) ⟨e2.name, e.blk, e.bytes, e.synced⟩ = putF (delF s.l e.name) ⟨e2.name, e.blk, e.bytes, e.synced⟩ from putF_del (delF s.l e.name) ⟨e2.name, e.blk, e.bytes, e.synced⟩])]
          refine TL_nil ?_
          refine T_region ?_
          refine TL_y rfl rfl (Y_move rfl) ?_
          refine TL_call rfl rfl (rkDid_spec ⟨s.size, s.calls, putF (delF s.l e.name) ⟨e2.name, e.blk, e.bytes, e.synced⟩⟩ hki hok.2.1 hok.2.2 h14) ?_
          rintro _ _ ⟨rfl, rfl⟩
          refine TL_y rfl rfl (Y_assign rfl) ?_
          refine TL_nil ?_
          refine T_ret ?_
          rw [hr]
          refine RetQ.gives (rk_after (A := A42) (c := c42) (ca := ca) b ⟨s.size, s.calls, putF (delF s.l e.name) ⟨e2.name, e.blk, e.bytes, e.synced⟩⟩ hki hok.2.1 hok.2.2 h14) ?_
          exact RetG_1 (.inl rfl) rfl (ResV.tmp rfl) GivesTo.g (⟨rfl, rfl⟩)
end Go.SL
set_option linter.unusedVariables false
set_option linter.unusedSimpArgs false
namespace Go.SL
open Go Go.Proofs
structure OpD where
  kind : Int
  name : ByteArray
  to_ : ByteArray
  bytes : List Int
  n : Int
  keep : List TornD
abbrev opC (o : OpD) (p : (Option Addr × Nat) × (Option Addr × Nat)) : List Value := [.int .i64 o.kind, .string o.name, .string o.to_, .slice p.1.1 o.bytes.length p.1.2, .int .i64 o.n, .slice p.2.1 o.keep.length p.2.2]
structure opOk (o : OpD) : Prop where
  kind : intIn .i64 o.kind
  name : o.name.size ≤ maxEl
  to_ : o.to_.size ≤ maxEl
  bytes : o.bytes.length ≤ 140737488351232
  n : intIn .i64 o.n
  keep : o.keep.length * 24 ≤ 140737488351232
def opR : Rep OpD := exR 6 opC (fun o p => [sl (intR .u8) p.1.1 p.1.2 o.bytes, sl tornR p.2.1 p.2.2 o.keep]) opOk (fun _ _ => rfl) (fun _ _ => rfl)
end Go.SL
set_option linter.unusedVariables false
set_option linter.unusedSimpArgs false
namespace Go.SL
open Go Go.Proofs
theorem u8_of {M : Mem} {A : Option Addr} {c : Nat} {xs : List Int} (h : sliceAt M (intR .u8) A c xs) : ∀ x ∈ xs, 0 ≤ x ∧ x ≤ 255 := fun x hx => by
  rcases h.2.2 with rfl | ⟨b, o, rfl, cs, t, fr, hb, hall⟩
  · cases hx
  · obtain ⟨i, hi⟩ := List.getElem?_of_mem hx
    obtain ⟨l, hl, _⟩ := hall i x hi
    have := hl.2
    simp [intIn, IntKind.min, IntKind.max] at this
    exact this
/-- Never off, of one size. -/
structure Nev (s t : DkS) : Prop where
  size : t.size = s.size
  calls : s.calls = -1 → t.calls = -1
theorem Nev.refl (s : DkS) : Nev s s := ⟨rfl, id⟩
abbrev nmNew : ByteArray := ⟨#[110, 101, 119]⟩
structure RmSt where
  i : Nat
  s : DkS
end Go.SL
