/- Disk: Cut, Remove, Rename, Read, Left, Stop. -/
import Derived.Test.YtooadkecmchpaaaDkC
import Derived.Test.YtooadkecmchpaaaSlV
import Derived.Test.YtooadkecmchpaaaSlY
set_option linter.unusedVariables false
set_option linter.unusedSimpArgs false
namespace Go.SL
open Go Go.Proofs
theorem diskCut_bad {L : List HP} {b bt : Nat} {s : DkS} (k : ByteArray) (n : Int) (hk : k.size ≤ maxEl) (hb : offK s ∨ findF s.l k = none) : Fn Try.prog 41 #[.pointer (some ⟨b, 0, none⟩), .string k, .int .i64 n] (dk b bt s :: L) (fun v L' => v = .int .i64 (cutK s k n).2 ∧ L' = dk b bt (cutK s k n).1 :: L) := by
  have hne := ready_ne hb
  rw [cut_bad hb]
  refine Fn_enter Try.func41 rfl rfl rfl rfl ?_
  refine T_region ?_
  refine TL_y rfl rfl (Y_assign rfl) ?_
  refine TL_nil ?_
  refine T_region ?_
  refine TL_y rfl rfl (Y_move rfl) ?_
  refine TL_y rfl rfl (Y_move rfl) ?_
  refine TL_call rfl rfl (ready_bad k hk hb) ?_
  rintro _ _ ⟨rfl, rfl⟩
  refine TL_y rfl rfl (Y_move rfl) ?_
  refine TL_y rfl rfl (Y_extract rfl rfl) ?_
  refine TL_y rfl rfl (Y_extract rfl rfl) ?_
  refine TL_y rfl rfl (Y_assign rfl) ?_
  refine TL_y rfl rfl (Y_assign rfl) ?_
  refine TL_nil ?_
  refine T_seq ?_
  refine T_block ?_
  refine T_region ?_
  refine TL_y rfl rfl (Y_move rfl) ?_
  refine TL_y rfl rfl (Y_ne rfl rfl) ?_
  refine TL_name 17 (v' := .bool true) rfl (congrArg Value.bool (decide_eq_true hne)) ?_
  refine TL_y rfl rfl (Y_assign rfl) ?_
  refine TL_nil ?_
  refine T_cond_true rfl ?_
  refine T_region ?_
  refine TL_y rfl rfl (Y_move rfl) ?_
  refine TL_y rfl rfl (Y_assign rfl) ?_
  refine TL_nil ?_
  refine T_ret ?_
  refine inB_ret ?_
  refine thenS_ret ?_
  exact RetG_1 (.inl rfl) rfl (ResV.tmp rfl) GivesTo.g (⟨rfl, rfl⟩)
theorem diskCut_ok {L : List HP} {b bt : Nat} {s : DkS} {e : FileE} (k : ByteArray) (n : Int) (hk : k.size ≤ maxEl) (ho : ¬ offK s) (hf : findF s.l k = some e) : Fn Try.prog 41 #[.pointer (some ⟨b, 0, none⟩), .string k, .int .i64 n] (dk b bt s :: L) (fun v L' => v = .int .i64 (cutK s k n).2 ∧ L' = dk b bt (cutK s k n).1 :: L) := by
  obtain ⟨he, hen⟩ := findF_mem hf
  refine Fn_enter Try.func41 rfl rfl rfl rfl ?_
  refine T_region ?_
  refine TL_y rfl rfl (Y_assign rfl) ?_
  refine TL_nil ?_
  refine T_region ?_
  refine TL_y rfl rfl (Y_move rfl) ?_
  refine TL_y rfl rfl (Y_move rfl) ?_
  refine TL_call rfl rfl (ready_ok k hk ho hf) ?_
  rintro _ _ ⟨rfl, rfl⟩
  refine TL_y rfl rfl (Y_move rfl) ?_
  refine TL_y rfl rfl (Y_extract rfl rfl) ?_
  refine TL_y rfl rfl (Y_extract rfl rfl) ?_
  refine TL_y rfl rfl (Y_assign rfl) ?_
  refine TL_y rfl rfl (Y_assign rfl) ?_
  refine TL_nil ?_
  refine T_seq ?_
  refine T_block ?_
  refine T_region ?_
  refine TL_y rfl rfl (Y_move rfl) ?_
  refine TL_y rfl rfl (Y_ne rfl rfl) ?_
  refine TL_name 17 (v' := .bool false) rfl (congrArg Value.bool (by decide)) ?_
  refine TL_y rfl rfl (Y_assign rfl) ?_
  refine TL_nil ?_
  refine T_cond_false rfl ?_
  refine T_dk fun hi => ?_
  refine T_fout hi.inc he fun A c => ?_
  refine T_region ?_
  refine TL_y rfl rfl (Y_move rfl) ?_
  refine TL_both 10 30 (n < 0 ∨ (e.bytes.length : Int) < n) ?_ ?_
  · refine TL_y rfl rfl (Y_lt rfl rfl) ?_
    refine TL_y rfl rfl (Y_move rfl) ?_
    refine TL_splitd 22 rfl (fun h22 => ?_) (fun h22 => ?_)
    · refine TL_gskip rfl rfl rfl rfl ?_
      refine TL_gskip rfl rfl rfl rfl ?_
      refine TL_gskip rfl rfl rfl rfl ?_
      refine TL_gskip rfl rfl rfl rfl ?_
      refine TL_gskip rfl rfl rfl rfl ?_
      refine TL_gskip rfl rfl rfl rfl ?_
      refine TL_gskip rfl rfl rfl rfl ?_
      refine TL_y rfl rfl (Y_pick_t rfl rfl) ?_
      refine TL_chain_end rfl ?_ (by repeat (first | exact sub_refl | refine sub_ext rfl ?_)) GivesTo.g
      exact congrArg Value.bool (decide_eq_true (by omega)).symm
    · refine TL_grun rfl rfl ?_
      refine TL_y rfl rfl (Y_move rfl) ?_
      refine TL_grun rfl rfl ?_
      refine TL_y rfl rfl (Y_move rfl) ?_
      refine TL_grun rfl rfl ?_
      refine TL_y rfl rfl (Y_nil_check rfl) ?_
      refine TL_grun rfl rfl ?_
      refine TL_y rfl rfl (Y_field_addr rfl) ?_
      refine TL_grun rfl rfl ?_
      refine TL_y rfl rfl (Y_load rfl rfl) ?_
      refine TL_grun rfl rfl ?_
      refine TL_y rfl rfl (Y_len rfl) ?_
      refine TL_grun rfl rfl ?_
      refine TL_y rfl rfl (Y_gt rfl rfl) ?_
      refine TL_y rfl rfl (Y_pick_f rfl rfl) ?_
      refine TL_chain_end rfl ?_ (by repeat (first | exact sub_refl | refine sub_ext rfl ?_)) GivesTo.g
      exact congrArg Value.bool (decide_eq_decide.2 (by omega))
  refine TL_y rfl rfl (Y_assign rfl) ?_
  refine TL_nil ?_
  refine T_if rfl (fun h19 => ?_) (fun h19 => ?_)
  · have hs : cutK s k n = (s, 1) := by unfold cutK; rw [hf]; simp only; rw [if_neg ho, if_pos h19]
    refine T_gives (f_back (A := A) (c := c) hi.inc he) ?_
    refine T_gives (dk_close b bt s hi) ?_
    refine T_region ?_
    refine TL_y rfl rfl (Y_assign rfl) ?_
    refine TL_nil ?_
    refine T_ret ?_
    refine inB_ret ?_
    refine thenS_ret ?_
    rw [hs]
    exact RetG_1 (.inl rfl) rfl (ResV.tmp rfl) GivesTo.g (⟨rfl, rfl⟩)
  · have hs : cutK s k n = (doneK ⟨s.size, s.calls, putF s.l ⟨k, e.blk, e.bytes.take n.toNat, n⟩⟩, 0) := by unfold cutK; rw [hf]; simp only; rw [if_neg ho, if_neg h19]
    refine T_skip ?_
    refine inB_normal ?_
    refine thenS_normal ?_
    refine T_gives (f_back (A := A) (c := c) hi.inc he) ?_
    refine T_gives (dk_close b bt s hi) ?_
    refine T_region ?_
    refine TL_y rfl rfl (Y_move rfl) ?_
    refine TL_y rfl rfl (Y_move rfl) ?_
    refine TL_y rfl rfl (Y_move rfl) ?_
    refine TL_call rfl rfl (diskCut0_spec he (by omega)) ?_
    rintro _ _ ⟨rfl, rfl⟩
    refine TL_nil ?_
    refine T_region ?_
    refine TL_y rfl rfl (Y_move rfl) ?_
    refine TL_call rfl rfl (diskDone_spec) ?_
    rintro _ _ ⟨rfl, rfl⟩
    refine TL_y rfl rfl (Y_assign rfl) ?_
    refine TL_nil ?_
    refine T_ret ?_
    rw [hs, hen]
    exact RetG_1 (.inl rfl) rfl (ResV.tmp rfl) GivesTo.g (⟨rfl, rfl⟩)
theorem diskCut_spec {L : List HP} {b bt : Nat} {s : DkS} (k : ByteArray) (n : Int) (hk : k.size ≤ maxEl) : Fn Try.prog 41 #[.pointer (some ⟨b, 0, none⟩), .string k, .int .i64 n] (dk b bt s :: L) (fun v L' => v = .int .i64 (cutK s k n).2 ∧ L' = dk b bt (cutK s k n).1 :: L) := by
  rcases ready_cases s k with hb | ⟨ho, e, hf⟩
  · exact diskCut_bad k n hk hb
  · exact diskCut_ok k n hk ho hf
theorem diskDrop_spec {L : List HP} {b bt : Nat} {s : DkS} {e : FileE} (he : e ∈ s.l) (hk : e.name.size ≤ maxEl) : Fn Try.prog 83 #[.pointer (some ⟨b, 0, none⟩), .string e.name, .pointer (some ⟨e.blk, 0, none⟩)] (dk b bt s :: L) (fun v L' => v = .tuple #[] ∧ ∃ A c, L' = dk b bt ⟨s.size, s.calls, delF s.l e.name⟩ :: cells e.blk [.slice A e.bytes.length c, .int .i64 e.synced] 126 :: osl (intR .u8) 5 A c e.bytes :: L) := by
  refine Fn_enter Try.func83 rfl rfl rfl rfl ?_
  refine T_dk fun hi => ?_
  refine T_fout hi.inc he fun A c => ?_
  have ht := hi.tot
  have hz := hi.size
  have hdt := delF_tot hi.inc he
  have hll : leftK s = s.size - (totF s.l : Int) := rfl
  refine T_region_draw (cells b [.map (some bt), .int .i64 (leftK s), .int .i64 s.calls] 120 :: cells e.blk [.slice A e.bytes.length c, .int .i64 e.synced] 126 :: []) [0, 1, 3, 7, 0, 16, 48, 112, 240, 511, 1023, 2047, 4095] [12] [(0, true), (1, true), (2, true), (3, true), (4, true), (5, true), (6, true), (7, true), (8, true), (9, true), (10, true), (11, true), (12, false)] (by kernel_rfl) (by decide +kernel) GivesTo.g ?_
  refine TF_y rfl rfl (Y_move rfl) ?_
  refine TF_y rfl rfl (Y_nil_check rfl) ?_
  refine TF_y rfl rfl (Y_field_addr rfl) ?_
  refine TF_y rfl rfl (Y_load rfl rfl) ?_
  refine TF_y rfl rfl (Y_move rfl) ?_
  refine TF_y rfl rfl (Y_nil_check rfl) ?_
  refine TF_y rfl rfl (Y_field_addr rfl) ?_
  refine TF_y rfl rfl (Y_load rfl rfl) ?_
  refine TF_y rfl rfl (Y_len rfl) ?_
  refine TF_y rfl rfl (Y_add rfl rfl (by omega)) ?_
  refine TF_y rfl rfl (Y_nil_check rfl) ?_
  refine TF_y rfl rfl (Y_field_addr rfl) ?_
  refine TF_anchor rfl ?_
  refine TL_store rfl rfl rfl rfl rfl rfl ?_
  refine TF_end_tail rfl ?_
  refine TF_nil ?_
  refine T_region_last ?_
  refine TL_y rfl rfl (Y_move rfl) ?_
  refine TL_y rfl rfl (Y_nil_check rfl) ?_
  refine TL_y rfl rfl (Y_field_addr rfl) ?_
  refine TL_y rfl rfl (Y_load rfl rfl) ?_
  refine TL_y rfl rfl (Y_move rfl) ?_
  refine TL_delete0 (k := e.name) rfl rfl hk ?_
  rw [delM_fmap]
  refine TL_nil ?_
  refine RetQ.gives (dk_close2 b bt ⟨s.size, s.calls, delF s.l e.name⟩ (n := leftK s + (e.bytes.length : Int)) (m := fmap (delF s.l e.name)) (by unfold leftK; dsimp only; omega) rfl (hi.del e.name)) ?_
  exact RetG_0 (.inr rfl) rfl GivesTo.g (⟨rfl, A, c, rfl⟩)
theorem diskRemove_bad {L : List HP} {b bt : Nat} {s : DkS} (k : ByteArray) (hk : k.size ≤ maxEl) (hb : offK s ∨ findF s.l k = none) : Fn Try.prog 43 #[.pointer (some ⟨b, 0, none⟩), .string k] (dk b bt s :: L) (fun v L' => v = .int .i64 (removeK s k).2 ∧ L' = dk b bt (removeK s k).1 :: L) := by
  have hne := ready_ne hb
  rw [remove_bad hb]
  refine Fn_enter Try.func43 rfl rfl rfl rfl ?_
  refine T_region ?_
  refine TL_y rfl rfl (Y_assign rfl) ?_
  refine TL_nil ?_
  refine T_region ?_
  refine TL_y rfl rfl (Y_move rfl) ?_
  refine TL_y rfl rfl (Y_move rfl) ?_
  refine TL_call rfl rfl (ready_bad k hk hb) ?_
  rintro _ _ ⟨rfl, rfl⟩
  refine TL_y rfl rfl (Y_move rfl) ?_
  refine TL_y rfl rfl (Y_extract rfl rfl) ?_
  refine TL_y rfl rfl (Y_extract rfl rfl) ?_
  refine TL_y rfl rfl (Y_assign rfl) ?_
  refine TL_y rfl rfl (Y_assign rfl) ?_
  refine TL_nil ?_
  refine T_seq ?_
  refine T_region ?_
  refine TL_y rfl rfl (Y_move rfl) ?_
  refine TL_y rfl rfl (Y_ne rfl rfl) ?_
  refine TL_name 14 (v' := .bool true) rfl (congrArg Value.bool (decide_eq_true hne)) ?_
  refine TL_nil ?_
  refine T_cond_true rfl ?_
  refine T_region ?_
  refine TL_y rfl rfl (Y_move rfl) ?_
  refine TL_y rfl rfl (Y_assign rfl) ?_
  refine TL_nil ?_
  refine T_ret ?_
  refine thenS_ret ?_
  exact RetG_1 (.inl rfl) rfl (ResV.tmp rfl) GivesTo.g (⟨rfl, rfl⟩)
theorem diskRemove_ok {L : List HP} {b bt : Nat} {s : DkS} {e : FileE} (k : ByteArray) (hk : k.size ≤ maxEl) (ho : ¬ offK s) (hf : findF s.l k = some e) : Fn Try.prog 43 #[.pointer (some ⟨b, 0, none⟩), .string k] (dk b bt s :: L) (fun v L' => v = .int .i64 (removeK s k).2 ∧ L' = dk b bt (removeK s k).1 :: L) := by
  obtain ⟨he, hen⟩ := findF_mem hf
  have hs : removeK s k = (doneK ⟨s.size, s.calls, delF s.l k⟩, 0) := by unfold removeK; rw [hf]; simp only; rw [if_neg ho]
  rw [hs]
  subst hen
  refine Fn_enter Try.func43 rfl rfl rfl rfl ?_
  refine T_region ?_
  refine TL_y rfl rfl (Y_assign rfl) ?_
  refine TL_nil ?_
  refine T_region ?_
  refine TL_y rfl rfl (Y_move rfl) ?_
  refine TL_y rfl rfl (Y_move rfl) ?_
  refine TL_call rfl rfl (ready_ok e.name hk ho hf) ?_
  rintro _ _ ⟨rfl, rfl⟩
  refine TL_y rfl rfl (Y_move rfl) ?_
  refine TL_y rfl rfl (Y_extract rfl rfl) ?_
  refine TL_y rfl rfl (Y_extract rfl rfl) ?_
  refine TL_y rfl rfl (Y_assign rfl) ?_
  refine TL_y rfl rfl (Y_assign rfl) ?_
  refine TL_nil ?_
  refine T_seq ?_
  refine T_region ?_
  refine TL_y rfl rfl (Y_move rfl) ?_
  refine TL_y rfl rfl (Y_ne rfl rfl) ?_
  refine TL_name 14 (v' := .bool false) rfl (congrArg Value.bool (by decide)) ?_
  refine TL_nil ?_
  refine T_cond_false rfl ?_
  refine T_skip ?_
  refine thenS_normal ?_
  refine T_region ?_
  refine TL_y rfl rfl (Y_move rfl) ?_
  refine TL_y rfl rfl (Y_move rfl) ?_
  refine TL_y rfl rfl (Y_move rfl) ?_
  refine TL_call rfl rfl (diskDrop_spec he hk) ?_
  rintro _ _ ⟨rfl, A19, c19, rfl⟩
  refine TL_nil ?_
  refine T_region ?_
  refine TL_y rfl rfl (Y_move rfl) ?_
  refine TL_call rfl rfl (diskDone_spec) ?_
  rintro _ _ ⟨rfl, rfl⟩
  refine TL_y rfl rfl (Y_assign rfl) ?_
  refine TL_nil ?_
  refine T_ret ?_
  exact RetG_1 (.inl rfl) rfl (ResV.tmp rfl) GivesTo.g (⟨rfl, rfl⟩)
theorem diskRemove_spec {L : List HP} {b bt : Nat} {s : DkS} (k : ByteArray) (hk : k.size ≤ maxEl) : Fn Try.prog 43 #[.pointer (some ⟨b, 0, none⟩), .string k] (dk b bt s :: L) (fun v L' => v = .int .i64 (removeK s k).2 ∧ L' = dk b bt (removeK s k).1 :: L) := by
  rcases ready_cases s k with hb | ⟨ho, e, hf⟩
  · exact diskRemove_bad k hk hb
  · exact diskRemove_ok k hk ho hf
theorem diskLeft_spec {L : List HP} {b bt : Nat} {s : DkS} : Fn Try.prog 46 #[.pointer (some ⟨b, 0, none⟩)] (dk b bt s :: L) (fun v L' => v = .int .i64 (leftK s) ∧ L' = dk b bt s :: L) := by
  refine Fn_enter Try.func46 rfl rfl rfl rfl ?_
  refine T_region ?_
  refine TL_y rfl rfl (Y_assign rfl) ?_
  refine TL_nil ?_
  refine T_seq ?_
  refine T_region ?_
  refine TL_y rfl rfl (Y_move rfl) ?_
  refine TL_call rfl rfl (diskMade_spec) ?_
  rintro _ _ ⟨rfl, rfl⟩
  refine TL_name 4 (v' := .bool true) rfl (rfl) ?_
  refine TL_y rfl rfl (Y_not_t rfl) ?_
  refine TL_nil ?_
  refine T_cond_false rfl ?_
  refine T_skip ?_
  refine thenS_normal ?_
  refine T_dk fun hi => ?_
  refine T_region ?_
  refine TL_y rfl rfl (Y_move rfl) ?_
  refine TL_y rfl rfl (Y_nil_check rfl) ?_
  refine TL_y rfl rfl (Y_field_addr rfl) ?_
  refine TL_y rfl rfl (Y_load rfl rfl) ?_
  refine TL_y rfl rfl (Y_assign rfl) ?_
  refine TL_nil ?_
  refine T_ret ?_
  refine RetQ.gives (dk_close b bt s hi) ?_
  exact RetG_1 (.inl rfl) rfl (ResV.tmp rfl) GivesTo.g (⟨rfl, rfl⟩)
theorem diskStop_spec {L : List HP} {b bt : Nat} {s : DkS} (n : Int) (hn : intIn .i64 n) : Fn Try.prog 52 #[.pointer (some ⟨b, 0, none⟩), .int .i64 n] (dk b bt s :: L) (fun v L' => v = .tuple #[] ∧ L' = dk b bt (stopK s n) :: L) := by
  refine Fn_enter Try.func52 rfl rfl rfl rfl ?_
  refine T_region ?_
  refine TL_y rfl rfl (Y_move rfl) ?_
  refine TL_call rfl rfl (diskMade_spec) ?_
  rintro _ _ ⟨rfl, rfl⟩
  refine TL_name 5 (v' := .bool true) rfl (rfl) ?_
  refine TL_y rfl rfl (Y_move rfl) ?_
  refine TL_grun rfl rfl ?_
  refine TL_y rfl rfl (Y_move rfl) ?_
  refine TL_grun rfl rfl ?_
  refine TL_call rfl rfl (diskOff_spec) ?_
  rintro _ _ ⟨rfl, rfl⟩
  refine TL_grun rfl rfl ?_
  refine TL_y rfl rfl (Y_not_d rfl) ?_
  refine TL_y rfl rfl (Y_pick_t rfl rfl) ?_
  refine TL_nil ?_
  refine T_if rfl (fun h10 => ?_) (fun h10 => ?_)
  · refine T_dk fun hi => ?_
    refine T_region_last ?_
    refine TL_y rfl rfl (Y_move rfl) ?_
    refine TL_y rfl rfl (Y_move rfl) ?_
    refine TL_y rfl rfl (Y_max rfl rfl) ?_
    refine TL_y rfl rfl (Y_nil_check rfl) ?_
    refine TL_y rfl rfl (Y_field_addr rfl) ?_
    refine TL_store rfl rfl rfl rfl rfl rfl ?_
    refine TL_nil ?_
    have e : stopK s n = ⟨s.size, max n (-1), s.l⟩ := by unfold stopK; rw [if_neg h10]
    rw [e]
    refine RetQ.gives (dk_close b bt ⟨s.size, max n (-1), s.l⟩ (by have := hi.stop hn; rwa [e] at this)) ?_
    exact RetG_0 (.inr rfl) rfl GivesTo.g (⟨rfl, rfl⟩)
  · refine T_skip ?_
    have e : stopK s n = s := by unfold stopK; rw [if_pos (Classical.not_not.1 h10)]
    rw [e]
    exact RetG_0 (.inr rfl) rfl GivesTo.g (⟨rfl, rfl⟩)
theorem diskRead_none {L : List HP} {b bt : Nat} {s : DkS} (k : ByteArray) (hk : k.size ≤ maxEl) (hf : findF s.l k = none) : Fn Try.prog 51 #[.pointer (some ⟨b, 0, none⟩), .string k] (dk b bt s :: L) (fun v L' => v = .tuple #[.string ⟨#[]⟩, .int .i64 4] ∧ L' = dk b bt s :: L) := by
  refine Fn_enter Try.func51 rfl rfl rfl rfl ?_
  refine T_region ?_
  refine TL_y rfl rfl (Y_assign rfl) ?_
  refine TL_y rfl rfl (Y_assign rfl) ?_
  refine TL_nil ?_
  refine T_region ?_
  refine TL_y rfl rfl (Y_move rfl) ?_
  refine TL_y rfl rfl (Y_move rfl) ?_
  refine TL_call rfl rfl (diskFind_spec k hk) ?_
  rintro _ _ ⟨rfl, rfl⟩
  rw [hf, show fptr s.l k = .pointer none by unfold fptr; rw [hf]; rfl]
  refine TL_y rfl rfl (Y_move rfl) ?_
  refine TL_y rfl rfl (Y_extract rfl rfl) ?_
  refine TL_y rfl rfl (Y_extract rfl rfl) ?_
  refine TL_y rfl rfl (Y_assign rfl) ?_
  refine TL_y rfl rfl (Y_assign rfl) ?_
  refine TL_nil ?_
  refine T_seq ?_
  refine T_region ?_
  refine TL_y rfl rfl (Y_move rfl) ?_
  refine TL_y rfl rfl (Y_ne rfl rfl) ?_
  refine TL_name 15 (v' := .bool true) rfl (congrArg Value.bool (by decide)) ?_
  refine TL_nil ?_
  refine T_cond_true rfl ?_
  refine T_region ?_
  refine TL_y rfl rfl (Y_move rfl) ?_
  refine TL_y rfl rfl (Y_assign rfl) ?_
  refine TL_y rfl rfl (Y_assign rfl) ?_
  refine TL_nil ?_
  refine T_ret ?_
  refine thenS_ret ?_
  exact RetG_2 (.inl rfl) rfl (ResV.tmp rfl) (ResV.tmp rfl) GivesTo.g (⟨rfl, rfl⟩)
theorem diskRead_some {L : List HP} {b bt : Nat} {s : DkS} {e : FileE} (k : ByteArray) (hk : k.size ≤ maxEl) (hf : findF s.l k = some e) : Fn Try.prog 51 #[.pointer (some ⟨b, 0, none⟩), .string k] (dk b bt s :: L) (fun v L' => v = .tuple #[.string (strOfNums e.bytes), .int .i64 0] ∧ L' = dk b bt s :: L) := by
  obtain ⟨he, hen⟩ := findF_mem hf
  refine Fn_enter Try.func51 rfl rfl rfl rfl ?_
  refine T_region ?_
  refine TL_y rfl rfl (Y_assign rfl) ?_
  refine TL_y rfl rfl (Y_assign rfl) ?_
  refine TL_nil ?_
  refine T_region ?_
  refine TL_y rfl rfl (Y_move rfl) ?_
  refine TL_y rfl rfl (Y_move rfl) ?_
  refine TL_call rfl rfl (diskFind_spec k hk) ?_
  rintro _ _ ⟨rfl, rfl⟩
  rw [hf, show fptr s.l k = .pointer (some ⟨e.blk, 0, none⟩) by unfold fptr; rw [hf]; rfl]
  refine TL_y rfl rfl (Y_move rfl) ?_
  refine TL_y rfl rfl (Y_extract rfl rfl) ?_
  refine TL_y rfl rfl (Y_extract rfl rfl) ?_
  refine TL_y rfl rfl (Y_assign rfl) ?_
  refine TL_y rfl rfl (Y_assign rfl) ?_
  refine TL_nil ?_
  refine T_seq ?_
  refine T_region ?_
  refine TL_y rfl rfl (Y_move rfl) ?_
  refine TL_y rfl rfl (Y_ne rfl rfl) ?_
  refine TL_name 15 (v' := .bool false) rfl (congrArg Value.bool (by simp)) ?_
  refine TL_nil ?_
  refine T_cond_false rfl ?_
  refine T_skip ?_
  refine thenS_normal ?_
  refine T_dk fun hi => ?_
  refine T_fout hi.inc he fun A c => ?_
  refine T_region ?_
  refine TL_y rfl rfl (Y_move rfl) ?_
  refine TL_y rfl rfl (Y_nil_check rfl) ?_
  refine TL_y rfl rfl (Y_field_addr rfl) ?_
  refine TL_y rfl rfl (Y_load rfl rfl) ?_
  refine TL_y rfl rfl (Y_bytes_strN rfl sln) ?_
  refine TL_y rfl rfl (Y_assign rfl) ?_
  refine TL_y rfl rfl (Y_assign rfl) ?_
  refine TL_nil ?_
  refine T_ret ?_
  refine RetQ.gives (f_back (A := A) (c := c) hi.inc he) ?_
  refine RetQ.gives (dk_close b bt s hi) ?_
  exact RetG_2 (.inl rfl) rfl (ResV.tmp rfl) (ResV.tmp rfl) GivesTo.g (⟨rfl, rfl⟩)
theorem diskRead_spec {L : List HP} {b bt : Nat} {s : DkS} (k : ByteArray) (hk : k.size ≤ maxEl) : Fn Try.prog 51 #[.pointer (some ⟨b, 0, none⟩), .string k] (dk b bt s :: L) (fun v L' => v = .tuple #[.string (match findF s.l k with | some e => strOfNums e.bytes | none => ⟨#[]⟩), .int .i64 (if (findF s.l k).isSome then 0 else 4)] ∧ L' = dk b bt s :: L) := by
  rcases hf : findF s.l k with _ | e
  · exact diskRead_none k hk hf
  · exact diskRead_some k hk hf
end Go.SL
