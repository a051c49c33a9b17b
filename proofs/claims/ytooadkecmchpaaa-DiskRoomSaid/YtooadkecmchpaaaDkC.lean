/- Disk: Sync, Cut, Remove, Rename, Read, Left, Stop. -/
import Derived.Test.YtooadkecmchpaaaDkB
import Derived.Test.YtooadkecmchpaaaIntsA
set_option linter.unusedVariables false
set_option linter.unusedSimpArgs false
namespace Go.SL
open Go Go.Proofs
theorem fmap_same {l : List FileE} (h : IncF l) {e e' : FileE} (he : e ∈ l) (hn : e'.name = e.name) (hb : e'.blk = e.blk) : fmap (putF l e') = fmap l := by
  have p1 : (fmap (putF l e')).Perm (fmap l) := by
    refine ((putF_perm e').map fun q : FileE => (q.name, q.blk)).trans ?_
    rw [hn, List.map_cons, hn, hb]
    exact (delF_perm h he).map fun q : FileE => (q.name, q.blk)
  refine p1.eq_of_pairwise (le := fun p q : ByteArray × Nat => ltN p.1 q.1 = true) (fun a b _ _ h1 h2 => absurd (ltN_trans h1 h2) (ltN_irr _)) ?_ ?_
  · exact List.pairwise_map.2 (h.put e')
  · exact List.pairwise_map.2 h
theorem dk_close2 {L L1 L2 L3 : List HP} (b bt : Nat) (s : DkS) {n : Int} {m : List (ByteArray × Nat)} (hl : leftK s = n) (hm : fmap s.l = m) [h1 : FindC L b [.map (some bt), .int .i64 n, .int .i64 s.calls] 120 L1] [h2 : FindM L1 bt ByteArray Nat strK fpR false m L2] [h3 : FindHP L2 (allH (s.l.map fH)) L3] (hi : KI s) : Gives L (dk b bt s :: L3) := by
  subst hl; subst hm; exact dk_close b bt s hi
theorem putF_totE {l : List FileE} (h : IncF l) {e e' : FileE} (he : e ∈ l) (hn : e'.name = e.name) : totF (putF l e') + e.bytes.length = totF l + e'.bytes.length := by
  have := delF_tot h he
  rw [putF_tot, hn]; omega
theorem ready_bad {L : List HP} {b bt : Nat} {s : DkS} (k : ByteArray) (hk : k.size ≤ maxEl) (hb : offK s ∨ findF s.l k = none) : Fn Try.prog 81 #[.pointer (some ⟨b, 0, none⟩), .string k] (dk b bt s :: L) (fun v L' => v = .tuple #[.pointer none, .int .i64 (readyK s k)] ∧ L' = dk b bt s :: L) := by
  refine Fn_enter Try.func81 rfl rfl rfl rfl ?_
  refine T_region ?_
  refine TL_y rfl rfl (Y_assign rfl) ?_
  refine TL_y rfl rfl (Y_assign rfl) ?_
  refine TL_nil ?_
  refine T_seq ?_
  refine T_region ?_
  refine TL_y rfl rfl (Y_move rfl) ?_
  refine TL_call rfl rfl (diskOff_spec) ?_
  rintro _ _ ⟨rfl, rfl⟩
  refine TL_nil ?_
  refine T_if rfl (fun h7 => ?_) (fun h7 => ?_)
  · refine T_region ?_
    refine TL_y rfl rfl (Y_assign rfl) ?_
    refine TL_y rfl rfl (Y_assign rfl) ?_
    refine TL_nil ?_
    refine T_ret ?_
    refine thenS_ret ?_
    rw [show readyK s k = 31 by unfold readyK; rw [if_pos h7]]
    exact RetG_2 (.inl rfl) rfl (ResV.tmp rfl) (ResV.tmp rfl) GivesTo.g (⟨rfl, rfl⟩)
  · refine T_skip ?_
    refine thenS_normal ?_
    refine T_region ?_
    refine TL_y rfl rfl (Y_move rfl) ?_
    refine TL_y rfl rfl (Y_move rfl) ?_
    refine TL_call rfl rfl (diskFind_spec k hk) ?_
    rintro _ _ ⟨rfl, rfl⟩
    refine TL_y rfl rfl (Y_extract rfl rfl) ?_
    refine TL_y rfl rfl (Y_extract rfl rfl) ?_
    refine TL_y rfl rfl (Y_assign rfl) ?_
    refine TL_y rfl rfl (Y_assign rfl) ?_
    refine TL_nil ?_
    refine T_ret ?_
    have hn : findF s.l k = none := hb.resolve_left h7
    rw [show fptr s.l k = .pointer none by unfold fptr; rw [hn]; rfl, show readyK s k = 4 by unfold readyK; rw [if_neg h7, hn]; rfl, hn]
    exact RetG_2 (.inl rfl) rfl (ResV.tmp rfl) (ResV.tmp rfl) GivesTo.g (⟨rfl, rfl⟩)
theorem ready_ok {L : List HP} {b bt : Nat} {s : DkS} {e : FileE} (k : ByteArray) (hk : k.size ≤ maxEl) (ho : ¬ offK s) (hf : findF s.l k = some e) : Fn Try.prog 81 #[.pointer (some ⟨b, 0, none⟩), .string k] (dk b bt s :: L) (fun v L' => v = .tuple #[.pointer (some ⟨e.blk, 0, none⟩), .int .i64 0] ∧ L' = dk b bt s :: L) := by
  refine Fn_enter Try.func81 rfl rfl rfl rfl ?_
  refine T_region ?_
  refine TL_y rfl rfl (Y_assign rfl) ?_
  refine TL_y rfl rfl (Y_assign rfl) ?_
  refine TL_nil ?_
  refine T_seq ?_
  refine T_region ?_
  refine TL_y rfl rfl (Y_move rfl) ?_
  refine TL_call rfl rfl (diskOff_spec) ?_
  rintro _ _ ⟨rfl, rfl⟩
  refine TL_name 7 (v' := .bool false) rfl (congrArg Value.bool (decide_eq_false ho)) ?_
  refine TL_nil ?_
  refine T_cond_false rfl ?_
  refine T_skip ?_
  refine thenS_normal ?_
  refine T_region ?_
  refine TL_y rfl rfl (Y_move rfl) ?_
  refine TL_y rfl rfl (Y_move rfl) ?_
  refine TL_call rfl rfl (diskFind_spec k hk) ?_
  rintro _ _ ⟨rfl, rfl⟩
  refine TL_y rfl rfl (Y_extract rfl rfl) ?_
  refine TL_y rfl rfl (Y_extract rfl rfl) ?_
  refine TL_y rfl rfl (Y_assign rfl) ?_
  refine TL_y rfl rfl (Y_assign rfl) ?_
  refine TL_nil ?_
  refine T_ret ?_
  rw [show fptr s.l k = .pointer (some ⟨e.blk, 0, none⟩) by unfold fptr; rw [hf]; rfl, hf]
  exact RetG_2 (.inl rfl) rfl (ResV.tmp rfl) (ResV.tmp rfl) GivesTo.g (⟨rfl, rfl⟩)
theorem ready_ne {s : DkS} {k : ByteArray} (hb : offK s ∨ findF s.l k = none) : readyK s k ≠ 0 := by
  unfold readyK
  by_cases h : offK s
  · rw [if_pos h]; decide
  · rw [if_neg h, hb.resolve_left h]; decide
theorem ready_cases (s : DkS) (k : ByteArray) : (offK s ∨ findF s.l k = none) ∨ (¬ offK s ∧ ∃ e, findF s.l k = some e) := by
  by_cases h : offK s
  · exact .inl (.inl h)
  · cases hf : findF s.l k with
    | none => exact .inl (.inr rfl)
    | some e => exact .inr ⟨h, e, rfl⟩
theorem sync_bad {s : DkS} {k : ByteArray} (hb : offK s ∨ findF s.l k = none) : syncK s k = (s, readyK s k) := by
  unfold syncK readyK
  by_cases h : offK s
  · cases findF s.l k <;> simp [h]
  · rw [hb.resolve_left h]; simp [h]
theorem cut_bad {s : DkS} {k : ByteArray} {n : Int} (hb : offK s ∨ findF s.l k = none) : cutK s k n = (s, readyK s k) := by
  unfold cutK readyK
  by_cases h : offK s
  · cases findF s.l k <;> simp [h]
  · rw [hb.resolve_left h]; simp [h]
theorem remove_bad {s : DkS} {k : ByteArray} (hb : offK s ∨ findF s.l k = none) : removeK s k = (s, readyK s k) := by
  unfold removeK readyK
  by_cases h : offK s
  · cases findF s.l k <;> simp [h]
  · rw [hb.resolve_left h]; simp [h]
theorem rename_bad {s : DkS} {k k2 : ByteArray} (hn : isName k2) (hb : offK s ∨ findF s.l k = none) : renameK s k k2 = (s, readyK s k) := by
  unfold renameK readyK
  rw [if_neg (Classical.not_not.2 hn)]
  by_cases h : offK s
  · cases findF s.l k <;> simp [h]
  · rw [hb.resolve_left h]; simp [h]
theorem diskSync_bad {L : List HP} {b bt : Nat} {s : DkS} (k : ByteArray) (hk : k.size ≤ maxEl) (hb : offK s ∨ findF s.l k = none) : Fn Try.prog 40 #[.pointer (some ⟨b, 0, none⟩), .string k] (dk b bt s :: L) (fun v L' => v = .int .i64 (syncK s k).2 ∧ L' = dk b bt (syncK s k).1 :: L) := by
  have hne := ready_ne hb
  rw [sync_bad hb]
  refine Fn_enter Try.func40 rfl rfl rfl rfl ?_
  refine T_region ?_
  refine TL_y rfl rfl (Y_assign rfl) ?_
  refine TL_nil ?_
  refine T_region ?_
  refine TL_y rfl rfl (Y_move rfl) ?_
  refine TL_y rfl rfl (Y_move rfl) ?_
  refine TL_call rfl rfl (ready_bad k hk hb) ?_
  rintro _ _ ⟨rfl, rfl⟩
  refine TL_y rfl rfl (Y_move rfl) ?_
  refine TL_y rfl rfl (Y_extract rfl rfl) ?_
  refine TL_y rfl rfl (Y_extract rfl rfl) ?_
  refine TL_y rfl rfl (Y_assign rfl) ?_
  refine TL_y rfl rfl (Y_assign rfl) ?_
  refine TL_nil ?_
  refine T_seq ?_
  refine T_region ?_
  refine TL_y rfl rfl (Y_move rfl) ?_
  refine TL_y rfl rfl (Y_ne rfl rfl) ?_
  refine TL_name 14 (v' := .bool true) rfl (congrArg Value.bool (decide_eq_true hne)) ?_
  refine TL_nil ?_
  refine T_cond_true rfl ?_
  refine T_region ?_
  refine TL_y rfl rfl (Y_move rfl) ?_
  refine TL_y rfl rfl (Y_assign rfl) ?_
  refine TL_nil ?_
  refine T_ret ?_
  refine thenS_ret ?_
  exact RetG_1 (.inl rfl) rfl (ResV.tmp rfl) GivesTo.g (⟨rfl, rfl⟩)
theorem diskSync_ok {L : List HP} {b bt : Nat} {s : DkS} {e : FileE} (k : ByteArray) (hk : k.size ≤ maxEl) (ho : ¬ offK s) (hf : findF s.l k = some e) : Fn Try.prog 40 #[.pointer (some ⟨b, 0, none⟩), .string k] (dk b bt s :: L) (fun v L' => v = .int .i64 (syncK s k).2 ∧ L' = dk b bt (syncK s k).1 :: L) := by
  obtain ⟨he, hen⟩ := findF_mem hf
  refine Fn_enter Try.func40 rfl rfl rfl rfl ?_
  refine T_region ?_
  refine TL_y rfl rfl (Y_assign rfl) ?_
  refine TL_nil ?_
  refine T_region ?_
  refine TL_y rfl rfl (Y_move rfl) ?_
  refine TL_y rfl rfl (Y_move rfl) ?_
  refine TL_call rfl rfl (ready_ok k hk ho hf) ?_
  rintro _ _ ⟨rfl, rfl⟩
  refine TL_y rfl rfl (Y_move rfl) ?_
  refine TL_y rfl rfl (Y_extract rfl rfl) ?_
  refine TL_y rfl rfl (Y_extract rfl rfl) ?_
  refine TL_y rfl rfl (Y_assign rfl) ?_
  refine TL_y rfl rfl (Y_assign rfl) ?_
  refine TL_nil ?_
  refine T_seq ?_
  refine T_region ?_
  refine TL_y rfl rfl (Y_move rfl) ?_
  refine TL_y rfl rfl (Y_ne rfl rfl) ?_
  refine TL_name 14 (v' := .bool false) rfl (congrArg Value.bool (by decide)) ?_
  refine TL_nil ?_
  refine T_cond_false rfl ?_
  refine T_skip ?_
  refine thenS_normal ?_
  refine T_dk fun hi => ?_
  refine T_fout hi.inc he fun A c => ?_
  have hs : syncK s k = (doneK ⟨s.size, s.calls, putF s.l ⟨k, e.blk, e.bytes, (e.bytes.length : Int)⟩⟩, 0) := by unfold syncK; rw [hf]; simp only; rw [if_neg ho]
  subst hen
  have htt := putF_totE (e' := ⟨e.name, e.blk, e.bytes, (e.bytes.length : Int)⟩) hi.inc he rfl
  have hfm := fmap_same (e' := ⟨e.name, e.blk, e.bytes, (e.bytes.length : Int)⟩) hi.inc he rfl rfl
  have hki := hi.change he e.bytes (e.bytes.length : Int) (Nat.le_refl _) (hi.ok e he).2.2.2 ⟨by omega, Int.le_refl _⟩
  refine T_region ?_
  refine TL_y rfl rfl (Y_move rfl) ?_
  refine TL_y rfl rfl (Y_move rfl) ?_
  refine TL_y rfl rfl (Y_nil_check rfl) ?_
  refine TL_y rfl rfl (Y_field_addr rfl) ?_
  refine TL_y rfl rfl (Y_load rfl rfl) ?_
  refine TL_y rfl rfl (Y_len rfl) ?_
  refine TL_y rfl rfl (Y_nil_check rfl) ?_
  refine TL_y rfl rfl (Y_field_addr rfl) ?_
  refine TL_store rfl rfl rfl rfl rfl rfl ?_
  refine TL_nil ?_
  refine T_gives (f_in (A := A) (c := c) (l := s.l) ⟨e.name, e.blk, e.bytes, (e.bytes.length : Int)⟩) ?_
  refine T_gives (dk_close2 b bt ⟨s.size, s.calls, putF s.l ⟨e.name, e.blk, e.bytes, (e.bytes.length : Int)⟩⟩ (n := leftK s) (m := fmap s.l) (by unfold leftK; dsimp only at htt ⊢; omega) hfm hki) ?_
  refine T_region ?_
  refine TL_y rfl rfl (Y_move rfl) ?_
  refine TL_call rfl rfl (diskDone_spec) ?_
  rintro _ _ ⟨rfl, rfl⟩
  refine TL_y rfl rfl (Y_assign rfl) ?_
  refine TL_nil ?_
  refine T_ret ?_
  rw [hs]
  exact RetG_1 (.inl rfl) rfl (ResV.tmp rfl) GivesTo.g (⟨rfl, rfl⟩)
theorem diskSync_spec {L : List HP} {b bt : Nat} {s : DkS} (k : ByteArray) (hk : k.size ≤ maxEl) : Fn Try.prog 40 #[.pointer (some ⟨b, 0, none⟩), .string k] (dk b bt s :: L) (fun v L' => v = .int .i64 (syncK s k).2 ∧ L' = dk b bt (syncK s k).1 :: L) := by
  rcases ready_cases s k with hb | ⟨ho, e, hf⟩
  · exact diskSync_bad k hk hb
  · exact diskSync_ok k hk ho hf
/-! ### Cut -/
theorem cloneB_spec {L : List HP} {A : Option Addr} {c : Nat} {xs : List Int} (hk : SlN L (intR .u8) A c xs) (hb : xs.length ≤ 140737488355328) : Fn Try.prog 94 #[.slice A xs.length c] L (fun v L' => ∃ A' c', v = .slice A' xs.length c' ∧ L' = osl (intR .u8) 5 A' c' xs :: L) := by
  refine Fn_enter Try.func94 rfl rfl rfl rfl ?_
  refine T_region ?_
  refine TL_y rfl rfl (Y_assign rfl) ?_
  refine TL_nil ?_
  refine T_seq ?_
  refine T_region ?_
  refine TL_y rfl rfl (Y_move rfl) ?_
  refine TL_y rfl rfl (Y_equal rfl rfl (EqIs.slice_nil)) ?_
  refine TL_nil ?_
  refine T_if rfl (fun h4 => ?_) (fun h4 => ?_)
  · subst h4
    refine hk.none_nil fun e => ?_
    subst e
    refine T_onil (A := none) (intR .u8) 5 ?_
    refine T_region ?_
    refine TL_y rfl rfl (Y_assign rfl) ?_
    refine TL_nil ?_
    refine T_ret ?_
    refine thenS_ret ?_
    exact RetG_1 (.inl rfl) rfl (ResV.tmp rfl) GivesTo.g (⟨none, 0, rfl, rfl⟩)
  · refine T_skip ?_
    refine thenS_normal ?_
    refine T_region ?_
    refine TL_build_slice rfl rfl rfl rfl rfl rfl ?_
    intro b5
    refine TL_osl (k := 0) (intR .u8) [] (Knows.const fun M => rfl) rfl (by simp) ?_
    refine TL_name 5 (v' := .slice (some ⟨b5, 0, none⟩) ([] : List Int).length 0) rfl rfl ?_
    refine TL_y rfl rfl (Y_move rfl) ?_
    refine TL_append_n rfl rfl rfl rfl rfl hk (by simp; omega) ?_
    intro A7 c7
    refine TL_y rfl rfl (Y_assign rfl) ?_
    refine TL_nil ?_
    refine T_ret ?_
    simp only [List.nil_append]
    exact RetG_1 (.inl rfl) rfl (ResV.tmp rfl) GivesTo.g (⟨A7, c7, rfl, rfl⟩)
theorem diskCut0_spec {L : List HP} {b bt : Nat} {s : DkS} {e : FileE} {n : Int} (he : e ∈ s.l) (hn : 0 ≤ n ∧ n ≤ (e.bytes.length : Int)) : Fn Try.prog 82 #[.pointer (some ⟨b, 0, none⟩), .pointer (some ⟨e.blk, 0, none⟩), .int .i64 n] (dk b bt s :: L) (fun v L' => v = .tuple #[] ∧ L' = dk b bt ⟨s.size, s.calls, putF s.l ⟨e.name, e.blk, e.bytes.take n.toNat, n⟩⟩ :: L) := by
  have htl : (e.bytes.take n.toNat).length = n.toNat := by rw [List.length_take]; omega
  refine Fn_enter Try.func82 rfl rfl rfl rfl ?_
  refine T_dk fun hi => ?_
  refine T_fout hi.inc he fun A c => ?_
  refine SlN.lens (sln (R := intR .u8) (A := A) (c := c) (xs := e.bytes)) fun hlc => ?_
  have htt := putF_totE (e' := ⟨e.name, e.blk, e.bytes.take n.toNat, n⟩) hi.inc he rfl
  have hfm := fmap_same (e' := ⟨e.name, e.blk, e.bytes.take n.toNat, n⟩) hi.inc he rfl rfl
  have hki := hi.change he (e.bytes.take n.toNat) n (by omega) (fun x hx => (hi.ok e he).2.2.2 x (List.mem_of_mem_take hx)) (by omega)
  have ht := hi.tot
  have hz := hi.size
  have hdt := delF_tot hi.inc he
  have hll : leftK s = s.size - (totF s.l : Int) := rfl
  refine T_region_draw (cells b [.map (some bt), .int .i64 (leftK s), .int .i64 s.calls] 120 :: cells e.blk [.slice A e.bytes.length c, .int .i64 e.synced] 126 :: []) [0, 1, 3, 7, 0, 16, 48, 112, 240, 0, 1008, 2047, 4095, 8191, 16383] [14] [(0, true), (1, true), (2, true), (3, true), (4, true), (5, true), (6, true), (7, true), (8, true), (9, true), (10, true), (11, true), (12, true), (13, true), (14, false)] (by kernel_rfl) (by decide +kernel) GivesTo.g ?_
  refine TF_y rfl rfl (Y_move rfl) ?_
  refine TF_y rfl rfl (Y_nil_check rfl) ?_
  refine TF_y rfl rfl (Y_field_addr rfl) ?_
  refine TF_y rfl rfl (Y_load rfl rfl) ?_
  refine TF_y rfl rfl (Y_move rfl) ?_
  refine TF_y rfl rfl (Y_nil_check rfl) ?_
  refine TF_y rfl rfl (Y_field_addr rfl) ?_
  refine TF_y rfl rfl (Y_load rfl rfl) ?_
  refine TF_y rfl rfl (Y_len rfl) ?_
  refine TF_y rfl rfl (Y_move rfl) ?_
  refine TF_y rfl rfl (Y_sub rfl rfl (by omega)) ?_
  refine TF_y rfl rfl (Y_add rfl rfl (by omega)) ?_
  refine TF_y rfl rfl (Y_nil_check rfl) ?_
  refine TF_y rfl rfl (Y_field_addr rfl) ?_
  refine TF_anchor rfl ?_
  refine TL_store rfl rfl rfl rfl rfl rfl ?_
  refine TF_end_tail rfl ?_
  refine TF_nil ?_
  refine T_region_last ?_
  refine TL_y rfl rfl (Y_move rfl) ?_
  refine TL_y rfl rfl (Y_move rfl) ?_
  refine TL_y rfl rfl (Y_move rfl) ?_
  refine TL_y rfl rfl (Y_nil_check rfl) ?_
  refine TL_y rfl rfl (Y_field_addr rfl) ?_
  refine TL_y rfl rfl (Y_load rfl rfl) ?_
  refine TL_y rfl rfl (Y_move rfl) ?_
  refine TL_y rfl rfl (Y_cut_h rfl rfl (by omega)) ?_
  refine TL_name 27 (v' := .slice A (e.bytes.take n.toNat).length c) rfl (by congr 1; omega) ?_
  refine TL_call rfl rfl (cloneB_spec ((sln (R := intR .u8) (A := A) (c := c) (xs := e.bytes)).take n.toNat) (by have := hlc.2; simp only [maxEl] at this; omega)) ?_
  rintro _ _ ⟨A28, c28, rfl, rfl⟩
  refine TL_y rfl rfl (Y_move rfl) ?_
  refine TL_y rfl rfl (Y_nil_check rfl) ?_
  refine TL_y rfl rfl (Y_field_addr rfl) ?_
  refine TL_store rfl rfl rfl rfl rfl rfl ?_
  refine TL_y rfl rfl (Y_nil_check rfl) ?_
  refine TL_y rfl rfl (Y_field_addr rfl) ?_
  refine TL_store rfl rfl rfl rfl rfl rfl ?_
  refine TL_nil ?_
  refine RetQ.gives (f_in (A := A28) (c := c28) (l := s.l) ⟨e.name, e.blk, e.bytes.take n.toNat, n⟩) ?_
  refine RetQ.gives (dk_close2 b bt ⟨s.size, s.calls, putF s.l ⟨e.name, e.blk, e.bytes.take n.toNat, n⟩⟩ (n := leftK s + ((e.bytes.length : Int) - n)) (m := fmap s.l) (by unfold leftK; dsimp only at htt ⊢; omega) hfm hki) ?_
  exact RetG_0 (.inr rfl) rfl GivesTo.g (⟨rfl, rfl⟩)
end Go.SL
