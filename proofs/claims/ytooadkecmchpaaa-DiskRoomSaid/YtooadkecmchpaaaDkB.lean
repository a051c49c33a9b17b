/- Disk: in memory; the short walks. -/
import Derived.Test.YtooadkecmchpaaaDkA
import Derived.Test.YtooadkecmchpaaaSlX
import Derived.Test.YtooadkecmchpaaaSlP
import Derived.Test.YtooadkecmchpaaaSlM
set_option linter.unusedVariables false
set_option linter.unusedSimpArgs false
namespace Go.SL
open Go Go.Proofs
def fpR : Rep Nat := ⟨1, fun _ b cs => cs = [.pointer (some ⟨b, 0, none⟩)], fun _ h => h, fun h => by simp [h], fun h v hv => by rw [h] at hv; simp at hv; subst hv; rfl⟩
instance : RepF fpR (fun b => [.pointer (some ⟨b, 0, none⟩)]) := ⟨fun _ _ _ h => h⟩
instance : RepV fpR (fun b => .pointer (some ⟨b, 0, none⟩)) := ⟨fun M x cs h => by rw [h]; rfl⟩
theorem ptr_rep (b : Nat) : ∀ M, fpR.rep M b [.pointer (some ⟨b, 0, none⟩)] := fun _ => rfl
abbrev fmap (l : List FileE) : List (ByteArray × Nat) := l.map fun e => (e.name, e.blk)
def fcells (e : FileE) (A : Option Addr) (c : Nat) : List HP := [cells e.blk [.slice A e.bytes.length c, .int .i64 e.synced] 126, osl (intR .u8) 5 A c e.bytes]
def fH (e : FileE) : HP := exH fun p : Option Addr × Nat => fcells e p.1 p.2
theorem allH_perm {ps qs : List HP} {L : List HP} (h : ps.Perm qs) : Gives (allH ps :: L) (allH qs :: L) := (unS_open.trans (Gives.perm (h.append_right L))).trans unS_close
theorem allH_uncons {a : HP} {r L : List HP} : Gives (allH (a :: r) :: L) (a :: allH r :: L) := (unS_open (L := a :: r) (L' := L)).trans (Gives.cons a unS_close)
theorem allH_cons {a : HP} {r L : List HP} : Gives (a :: allH r :: L) (allH (a :: r) :: L) := (Gives.cons a (unS_open (L := r) (L' := L))).trans (unS_close (L := a :: r) (L' := L))
abbrev dkF (b bt : Nat) (s : DkS) : List HP := [cells b [.map (some bt), .int .i64 (leftK s), .int .i64 s.calls] 120, omap strK fpR false bt (fmap s.l), allH (s.l.map fH), pure (KI s)]
def dk (b bt : Nat) (s : DkS) : HP := unS (dkF b bt s)
instance findK_dk {L : List HP} {b bt : Nat} {s : DkS} : FindK (dk b bt s :: L) b (dk b bt s) L := ⟨Gives.refl _⟩
section
variable {r : Option Nat} {n : Nat} {P : Program} {ops : Array Oper} {rest : List Oper} {K : St → Prop} {Q : Exit → St → Prop} {D : List Deferred} {E : Env} {L L' : List HP} {b bt : Nat} {s : DkS}
theorem dk_open {W w : World} (h : Sat W w (dk b bt s :: L)) : KI s ∧ Sat W w (cells b [.map (some bt), .int .i64 (leftK s), .int .i64 s.calls] 120 :: omap strK fpR false bt (fmap s.l) :: allH (s.l.map fH) :: L) := by
  have hp := h.gives (unS_open (L := dkF b bt s) (L' := L))
  obtain ⟨M, k, hd, hM, hk, h1, h2, hd', l1, l2, hq, hs⟩ := (hp.gives (Gives.pull 3 (dkF b bt s ++ L))).ex
  exact ⟨hq, (hp.gives (Gives.pull 3 (dkF b bt s ++ L))).gives (Gives.drop _ _)⟩
theorem T_dk {c : Code} (h : KI s → T r n P c ⟨D, E, cells b [.map (some bt), .int .i64 (leftK s), .int .i64 s.calls] 120 :: omap strK fpR false bt (fmap s.l) :: allH (s.l.map fH) :: L⟩ Q) : T r n P c ⟨D, E, dk b bt s :: L⟩ Q := fun W a w hh => by
  obtain ⟨h1, hs⟩ := dk_open hh.2
  exact h h1 W a w ⟨hh.1, hs⟩
theorem TL_dk (h : KI s → TL r n P ops rest ⟨D, E, cells b [.map (some bt), .int .i64 (leftK s), .int .i64 s.calls] 120 :: omap strK fpR false bt (fmap s.l) :: allH (s.l.map fH) :: L⟩ K) : TL r n P ops rest ⟨D, E, dk b bt s :: L⟩ K := fun W a w hh => by
  obtain ⟨h1, hs⟩ := dk_open hh.2
  exact h h1 W a w ⟨hh.1, hs⟩
theorem T_dkI {c : Code} (h : KI s → T r n P c ⟨D, E, dk b bt s :: L⟩ Q) : T r n P c ⟨D, E, dk b bt s :: L⟩ Q := fun W a w hh => by
  obtain ⟨h1, hs⟩ := dk_open hh.2
  exact h h1 W a w hh
theorem dk_close {L1 L2 L3 : List HP} (b bt : Nat) (s : DkS) [h1 : FindC L b [.map (some bt), .int .i64 (leftK s), .int .i64 s.calls] 120 L1] [h2 : FindM L1 bt ByteArray Nat strK fpR false (fmap s.l) L2] [h3 : FindHP L2 (allH (s.l.map fH)) L3] (hi : KI s) : Gives L (dk b bt s :: L3) := by
  refine Gives.trans (h1.g.trans (Gives.cons _ (h2.g.trans (Gives.cons _ h3.g)))) ?_
  refine Gives.trans ?_ (unS_close (L := dkF b bt s) (L' := L3))
  exact Gives.cons _ (Gives.cons _ (Gives.cons _ (Gives.pure_intro hi)))
/-- One file taken out, and put back. -/
theorem T_fout {c : Code} {l : List FileE} {e : FileE} {L0 : List HP} [hf : FindHP L (allH (l.map fH)) L0] (hi : IncF l) (he : e ∈ l) (h : ∀ A c', T r n P c ⟨D, E, cells e.blk [.slice A e.bytes.length c', .int .i64 e.synced] 126 :: osl (intR .u8) 5 A c' e.bytes :: allH ((delF l e.name).map fH) :: L0⟩ Q) : T r n P c ⟨D, E, L⟩ Q :=
  T_gives (hf.g.trans ((allH_perm ((delF_perm hi he).symm.map fH)).trans allH_uncons)) (T_exH (f := fun p : Option Addr × Nat => fcells e p.1 p.2) fun p => h p.1 p.2)
theorem f_in {l : List FileE} {A : Option Addr} {c : Nat} {L1 L2 L3 : List HP} (e : FileE) [h1 : FindC L e.blk [.slice A e.bytes.length c, .int .i64 e.synced] 126 L1] [h2 : FindO L1 A c Int (intR .u8) 5 e.bytes L2] [h3 : FindHP L2 (allH ((delF l e.name).map fH)) L3] : Gives L (allH ((putF l e).map fH) :: L3) := by
  refine Gives.trans (h1.g.trans (Gives.cons _ (h2.g.trans (Gives.cons _ h3.g)))) ?_
  refine Gives.trans (exH_close (f := fun p : Option Addr × Nat => fcells e p.1 p.2) (L := allH ((delF l e.name).map fH) :: L3) (A, c)) ?_
  exact allH_cons.trans (allH_perm ((putF_perm e).symm.map fH))
theorem f_back {l : List FileE} {A : Option Addr} {c : Nat} {L1 L2 L3 : List HP} {e : FileE} [h1 : FindC L e.blk [.slice A e.bytes.length c, .int .i64 e.synced] 126 L1] [h2 : FindO L1 A c Int (intR .u8) 5 e.bytes L2] [h3 : FindHP L2 (allH ((delF l e.name).map fH)) L3] (hi : IncF l) (he : e ∈ l) : Gives L (allH (l.map fH) :: L3) := by
  refine Gives.trans (h1.g.trans (Gives.cons _ (h2.g.trans (Gives.cons _ h3.g)))) ?_
  refine Gives.trans (exH_close (f := fun p : Option Addr × Nat => fcells e p.1 p.2) (L := allH ((delF l e.name).map fH) :: L3) (A, c)) ?_
  exact allH_cons.trans (allH_perm ((delF_perm hi he).map fH))
end
theorem getM_fmap (l : List FileE) (k : ByteArray) : getM (fmap l) k = (findF l k).map (·.blk) := by
  unfold getM fmap findF
  rw [List.find?_map]
  show Option.map (·.2) (Option.map (fun e : FileE => (e.name, e.blk)) (l.find? fun e => decide (e.name = k))) = _
  cases l.find? fun e => decide (e.name = k) <;> rfl
theorem delM_fmap (l : List FileE) (k : ByteArray) : delM (fmap l) k = fmap (delF l k) := by
  unfold delM fmap delF; rw [List.filter_map]; rfl
theorem put_fmap (l : List FileE) (e : FileE) : ((e.name, e.blk) :: delM (fmap l) e.name).Perm (fmap (putF l e)) := by
  rw [delM_fmap]; exact ((putF_perm e).map fun e : FileE => (e.name, e.blk)).symm
def dkNew (size : Int) : DkS := ⟨size, -1, []⟩
theorem dkNew_I {n : Int} (h : 0 ≤ n ∧ n ≤ 268435456) : KI (dkNew n) := ⟨h, ⟨Int.le_refl _, show intIn .i64 (-1) from i64In_mk (by decide)⟩, List.Pairwise.nil, Nat.zero_le _, by show ((0 : Nat) : Int) ≤ n; omega, by simp [dkNew]⟩
theorem dk_new {n : Int} (h : 0 ≤ n ∧ n ≤ 268435456) {b bt : Nat} {L : List HP} : Gives (cells b [.map (some bt), .int .i64 n, .int .i64 (-1)] 120 :: omap strK fpR false bt ([] : List (ByteArray × Nat)) :: L) (dk b bt (dkNew n) :: L) := by
  have hl : leftK (dkNew n) = n := by unfold leftK dkNew totF; simp
  refine Gives.trans (B := cells b [.map (some bt), .int .i64 (leftK (dkNew n)), .int .i64 (dkNew n).calls] 120 :: omap strK fpR false bt (fmap (dkNew n).l) :: allH ((dkNew n).l.map fH) :: L) ?_ (dk_close b bt (dkNew n) (dkNew_I h))
  rw [hl]
  exact Gives.cons _ (Gives.cons _ (unS_close (L := [])))
theorem diskNew_ok (n : Int) (h : 0 ≤ n ∧ n ≤ 268435456) (L : List HP) : Fn Try.prog 37 #[.int .i64 n] L (fun v L' => ∃ b bt, v = .tuple #[.pointer (some ⟨b, 0, none⟩), .int .i64 0] ∧ L' = dk b bt (dkNew n) :: L) := by
  refine Fn_enter Try.func37 rfl rfl rfl rfl ?_
  refine T_region ?_
  refine TL_y rfl rfl (Y_assign rfl) ?_
  refine TL_y rfl rfl (Y_assign rfl) ?_
  refine TL_nil ?_
  refine T_seq ?_
  refine T_region ?_
  refine TL_y rfl rfl (Y_move rfl) ?_
  refine TL_y rfl rfl (Y_lt rfl rfl) ?_
  refine TL_y rfl rfl (Y_move rfl) ?_
  refine TL_name 6 (v' := .bool false) rfl (congrArg Value.bool (decide_eq_false (by omega))) ?_
  refine TL_grun rfl rfl ?_
  refine TL_y rfl rfl (Y_move rfl) ?_
  refine TL_grun rfl rfl ?_
  refine TL_y rfl rfl (Y_gt rfl rfl) ?_
  refine TL_name 8 (v' := .bool false) rfl (congrArg Value.bool (decide_eq_false (by omega))) ?_
  refine TL_y rfl rfl (Y_pick_f rfl rfl) ?_
  refine TL_nil ?_
  refine T_cond_false rfl ?_
  refine T_skip ?_
  refine thenS_normal ?_
  refine T_region ?_
  refine TL_makeMap strK fpR false rfl ?_
  intro bt
  refine TL_y rfl rfl (Y_move rfl) ?_
  refine TL_y rfl rfl (Y_build rfl rfl) ?_
  refine TL_box rfl rfl rfl ?_
  intro b13
  refine TL_y rfl rfl (Y_assign rfl) ?_
  refine TL_y rfl rfl (Y_assign rfl) ?_
  refine TL_nil ?_
  refine T_ret ?_
  refine RetQ.gives (show Gives _ (cells b13 [.map (some bt), .int .i64 n, .int .i64 (-1)] 120 :: omap strK fpR false bt ([] : List (ByteArray × Nat)) :: L) from GivesTo.g) ?_
  refine RetQ.gives (dk_new h) ?_
  exact RetG_2 (.inl rfl) rfl (ResV.tmp rfl) (ResV.tmp rfl) GivesTo.g (⟨b13, bt, rfl, rfl⟩)
theorem diskNew_bad (n : Int) (h : ¬ (0 ≤ n ∧ n ≤ 268435456)) (L : List HP) : Fn Try.prog 37 #[.int .i64 n] L (fun v L' => v = .tuple #[.pointer none, .int .i64 1] ∧ L' = L) := by
  refine Fn_enter Try.func37 rfl rfl rfl rfl ?_
  refine T_region ?_
  refine TL_y rfl rfl (Y_assign rfl) ?_
  refine TL_y rfl rfl (Y_assign rfl) ?_
  refine TL_nil ?_
  refine T_seq ?_
  refine T_region ?_
  refine TL_y rfl rfl (Y_move rfl) ?_
  refine TL_y rfl rfl (Y_lt rfl rfl) ?_
  refine TL_y rfl rfl (Y_move rfl) ?_
  refine TL_splitd 6 rfl (fun h6 => ?_) (fun h6 => ?_)
  · refine TL_gskip rfl rfl rfl rfl ?_
    refine TL_gskip rfl rfl rfl rfl ?_
    refine TL_y rfl rfl (Y_pick_t rfl rfl) ?_
    refine TL_nil ?_
    refine T_cond_true rfl ?_
    refine T_region ?_
    refine TL_y rfl rfl (Y_assign rfl) ?_
    refine TL_y rfl rfl (Y_assign rfl) ?_
    refine TL_nil ?_
    refine T_ret ?_
    refine thenS_ret ?_
    exact RetG_2 (.inl rfl) rfl (ResV.tmp rfl) (ResV.tmp rfl) GivesTo.g (⟨rfl, rfl⟩)
  · refine TL_grun rfl rfl ?_
    refine TL_y rfl rfl (Y_move rfl) ?_
    refine TL_grun rfl rfl ?_
    refine TL_y rfl rfl (Y_gt rfl rfl) ?_
    refine TL_y rfl rfl (Y_pick_f rfl rfl) ?_
    refine TL_nil ?_
    refine T_if_pos rfl (by omega) ?_
    refine T_region ?_
    refine TL_y rfl rfl (Y_assign rfl) ?_
    refine TL_y rfl rfl (Y_assign rfl) ?_
    refine TL_nil ?_
    refine T_ret ?_
    refine thenS_ret ?_
    exact RetG_2 (.inl rfl) rfl (ResV.tmp rfl) (ResV.tmp rfl) GivesTo.g (⟨rfl, rfl⟩)
theorem diskMade_spec {L : List HP} {b bt : Nat} {s : DkS} : Fn Try.prog 78 #[.pointer (some ⟨b, 0, none⟩)] (dk b bt s :: L) (fun v L' => v = .bool true ∧ L' = dk b bt s :: L) := by
  refine Fn_enter Try.func78 rfl rfl rfl rfl ?_
  refine T_dk fun hi => ?_
  refine T_region ?_
  refine TL_y rfl rfl (Y_assign rfl) ?_
  refine TL_nil ?_
  refine T_region ?_
  refine TL_y rfl rfl (Y_move rfl) ?_
  refine TL_y rfl rfl (Y_unequal rfl rfl (EqIs.ptr_nil)) ?_
  refine TL_name 4 (v' := .bool true) rfl (by simp) ?_
  refine TL_y rfl rfl (Y_move rfl) ?_
  refine TL_grun rfl rfl ?_
  refine TL_y rfl rfl (Y_move rfl) ?_
  refine TL_grun rfl rfl ?_
  refine TL_y rfl rfl (Y_nil_check rfl) ?_
  refine TL_grun rfl rfl ?_
  refine TL_y rfl rfl (Y_field_addr rfl) ?_
  refine TL_grun rfl rfl ?_
  refine TL_y rfl rfl (Y_load rfl rfl) ?_
  refine TL_grun rfl rfl ?_
  refine TL_y rfl rfl (Y_unequal rfl rfl (EqIs.map_nil)) ?_
  refine TL_name 10 (v' := .bool true) rfl (by simp) ?_
  refine TL_y rfl rfl (Y_pick_t rfl rfl) ?_
  refine TL_y rfl rfl (Y_assign rfl) ?_
  refine TL_nil ?_
  refine T_ret ?_
  refine RetQ.gives (dk_close b bt s hi) ?_
  exact RetG_1 (.inl rfl) rfl (ResV.tmp rfl) GivesTo.g (⟨rfl, rfl⟩)
theorem diskMade_nil (L : List HP) : Fn Try.prog 78 #[.pointer none] L (fun v L' => v = .bool false ∧ L' = L) := by
  refine Fn_enter Try.func78 rfl rfl rfl rfl ?_
  refine T_region ?_
  refine TL_y rfl rfl (Y_assign rfl) ?_
  refine TL_nil ?_
  refine T_region ?_
  refine TL_y rfl rfl (Y_move rfl) ?_
  refine TL_y rfl rfl (Y_unequal rfl rfl (EqIs.ptr_nil)) ?_
  refine TL_name 4 (v' := .bool false) rfl (by simp) ?_
  refine TL_y rfl rfl (Y_move rfl) ?_
  refine TL_gskip rfl rfl rfl rfl ?_
  refine TL_gskip rfl rfl rfl rfl ?_
  refine TL_gskip rfl rfl rfl rfl ?_
  refine TL_gskip rfl rfl rfl rfl ?_
  refine TL_gskip rfl rfl rfl rfl ?_
  refine TL_y rfl rfl (Y_pick_f rfl rfl) ?_
  refine TL_y rfl rfl (Y_assign rfl) ?_
  refine TL_nil ?_
  refine T_ret ?_
  exact RetG_1 (.inl rfl) rfl (ResV.tmp rfl) GivesTo.g (⟨rfl, rfl⟩)
theorem diskOff_spec {L : List HP} {b bt : Nat} {s : DkS} : Fn Try.prog 53 #[.pointer (some ⟨b, 0, none⟩)] (dk b bt s :: L) (fun v L' => v = .bool (decide (offK s)) ∧ L' = dk b bt s :: L) := by
  refine Fn_enter Try.func53 rfl rfl rfl rfl ?_
  refine T_region ?_
  refine TL_y rfl rfl (Y_assign rfl) ?_
  refine TL_nil ?_
  refine T_region ?_
  refine TL_y rfl rfl (Y_move rfl) ?_
  refine TL_call rfl rfl (diskMade_spec) ?_
  rintro _ _ ⟨rfl, rfl⟩
  refine TL_name 4 (v' := .bool true) rfl (rfl) ?_
  refine TL_y rfl rfl (Y_move rfl) ?_
  refine TL_grun rfl rfl ?_
  refine TL_dk fun hi => ?_
  refine TL_y rfl rfl (Y_move rfl) ?_
  refine TL_grun rfl rfl ?_
  refine TL_y rfl rfl (Y_nil_check rfl) ?_
  refine TL_grun rfl rfl ?_
  refine TL_y rfl rfl (Y_field_addr rfl) ?_
  refine TL_grun rfl rfl ?_
  refine TL_y rfl rfl (Y_load rfl rfl) ?_
  refine TL_grun rfl rfl ?_
  refine TL_y rfl rfl (Y_eq rfl rfl) ?_
  refine TL_y rfl rfl (Y_pick_t rfl rfl) ?_
  refine TL_y rfl rfl (Y_assign rfl) ?_
  refine TL_nil ?_
  refine T_ret ?_
  refine RetQ.gives (dk_close b bt s hi) ?_
  exact RetG_1 (.inl rfl) rfl (ResV.tmp rfl) GivesTo.g (⟨rfl, rfl⟩)
theorem diskOff_nil (L : List HP) : Fn Try.prog 53 #[.pointer none] L (fun v L' => v = .bool false ∧ L' = L) := by
  refine Fn_enter Try.func53 rfl rfl rfl rfl ?_
  refine T_region ?_
  refine TL_y rfl rfl (Y_assign rfl) ?_
  refine TL_nil ?_
  refine T_region ?_
  refine TL_y rfl rfl (Y_move rfl) ?_
  refine TL_call rfl rfl (diskMade_nil _) ?_
  rintro _ _ ⟨rfl, rfl⟩
  refine TL_name 4 (v' := .bool false) rfl (rfl) ?_
  refine TL_y rfl rfl (Y_move rfl) ?_
  refine TL_gskip rfl rfl rfl rfl ?_
  refine TL_gskip rfl rfl rfl rfl ?_
  refine TL_gskip rfl rfl rfl rfl ?_
  refine TL_gskip rfl rfl rfl rfl ?_
  refine TL_gskip rfl rfl rfl rfl ?_
  refine TL_y rfl rfl (Y_pick_f rfl rfl) ?_
  refine TL_y rfl rfl (Y_assign rfl) ?_
  refine TL_nil ?_
  refine T_ret ?_
  exact RetG_1 (.inl rfl) rfl (ResV.tmp rfl) GivesTo.g (⟨rfl, rfl⟩)
theorem diskDone_spec {L : List HP} {b bt : Nat} {s : DkS} : Fn Try.prog 80 #[.pointer (some ⟨b, 0, none⟩)] (dk b bt s :: L) (fun v L' => v = .int .i64 0 ∧ L' = dk b bt (doneK s) :: L) := by
  refine Fn_enter Try.func80 rfl rfl rfl rfl ?_
  refine T_dk fun hi => ?_
  have hc := hi.calls.1
  have hc2 := i64In hi.calls.2
  refine T_region ?_
  refine TL_y rfl rfl (Y_assign rfl) ?_
  refine TL_nil ?_
  refine T_seq ?_
  refine T_region ?_
  refine TL_y rfl rfl (Y_move rfl) ?_
  refine TL_y rfl rfl (Y_nil_check rfl) ?_
  refine TL_y rfl rfl (Y_field_addr rfl) ?_
  refine TL_y rfl rfl (Y_load rfl rfl) ?_
  refine TL_y rfl rfl (Y_gt rfl rfl) ?_
  refine TL_nil ?_
  refine T_if rfl (fun h7 => ?_) (fun h7 => ?_)
  · refine T_region_last ?_
    refine TL_y rfl rfl (Y_move rfl) ?_
    refine TL_y rfl rfl (Y_nil_check rfl) ?_
    refine TL_y rfl rfl (Y_field_addr rfl) ?_
    refine TL_y rfl rfl (Y_load rfl rfl) ?_
    refine TL_y rfl rfl (Y_sub rfl rfl (by omega)) ?_
    refine TL_y rfl rfl (Y_nil_check rfl) ?_
    refine TL_y rfl rfl (Y_field_addr rfl) ?_
    refine TL_store rfl rfl rfl rfl rfl rfl ?_
    refine TL_nil ?_
    refine thenS_normal ?_
    refine T_region ?_
    refine TL_y rfl rfl (Y_assign rfl) ?_
    refine TL_nil ?_
    refine T_ret ?_
    have e : doneK s = ⟨s.size, s.calls - 1, s.l⟩ := by unfold doneK; rw [if_pos h7]
    refine RetQ.gives (dk_close b bt ⟨s.size, s.calls - 1, s.l⟩ (by have := hi.done; rwa [e] at this)) ?_
    exact RetG_1 (.inl rfl) rfl (ResV.tmp rfl) GivesTo.g (⟨rfl, by rw [e]⟩)
  · refine T_skip ?_
    refine thenS_normal ?_
    refine T_region ?_
    refine TL_y rfl rfl (Y_assign rfl) ?_
    refine TL_nil ?_
    refine T_ret ?_
    have e : doneK s = s := by unfold doneK; rw [if_neg h7]
    refine RetQ.gives (dk_close b bt s hi) ?_
    exact RetG_1 (.inl rfl) rfl (ResV.tmp rfl) GivesTo.g (⟨rfl, by rw [e]⟩)
/-- A file's pointer. -/
abbrev fptr (l : List FileE) (k : ByteArray) : Value := .pointer ((findF l k).map fun e => ⟨e.blk, 0, none⟩)
theorem look_ptr (l : List FileE) (k : ByteArray) : lookV (fun b => .pointer (some ⟨b, 0, none⟩)) (.pointer none) (getM (fmap l) k) = fptr l k := by
  rw [getM_fmap]; unfold fptr; cases findF l k <;> rfl
theorem diskFind_spec {L : List HP} {b bt : Nat} {s : DkS} (k : ByteArray) (hk : k.size ≤ maxEl) : Fn Try.prog 97 #[.pointer (some ⟨b, 0, none⟩), .string k] (dk b bt s :: L) (fun v L' => v = .tuple #[fptr s.l k, .int .i64 (if (findF s.l k).isSome then 0 else 4)] ∧ L' = dk b bt s :: L) := by
  refine Fn_enter Try.func97 rfl rfl rfl rfl ?_
  refine T_region ?_
  refine TL_y rfl rfl (Y_assign rfl) ?_
  refine TL_y rfl rfl (Y_assign rfl) ?_
  refine TL_nil ?_
  refine T_seq ?_
  refine T_region ?_
  refine TL_y rfl rfl (Y_move rfl) ?_
  refine TL_call rfl rfl (diskMade_spec) ?_
  rintro _ _ ⟨rfl, rfl⟩
  refine TL_name 8 (v' := .bool true) rfl (rfl) ?_
  refine TL_y rfl rfl (Y_not_t rfl) ?_
  refine TL_nil ?_
  refine T_cond_false rfl ?_
  refine T_skip ?_
  refine thenS_normal ?_
  refine T_dk fun hi => ?_
  refine T_region ?_
  refine TL_y rfl rfl (Y_move rfl) ?_
  refine TL_y rfl rfl (Y_nil_check rfl) ?_
  refine TL_y rfl rfl (Y_field_addr rfl) ?_
  refine TL_y rfl rfl (Y_load rfl rfl) ?_
  refine TL_y rfl rfl (Y_move rfl) ?_
  refine TL_y rfl rfl (Y_lookup (k := k) rfl rfl hk) ?_
  refine TL_name 15 (v' := fptr s.l k) rfl (look_ptr s.l k) ?_
  refine TL_y rfl rfl (Y_assign rfl) ?_
  refine TL_nil ?_
  refine T_seq ?_
  rcases hf : findF s.l k with _ | e
  · rw [show fptr s.l k = .pointer none by unfold fptr; rw [hf]; rfl]
    refine T_region ?_
    refine TL_y rfl rfl (Y_move rfl) ?_
    refine TL_y rfl rfl (Y_equal rfl rfl (EqIs.ptr_nil)) ?_
    refine TL_name 17 (v' := .bool true) rfl (by simp) ?_
    refine TL_nil ?_
    refine T_cond_true rfl ?_
    refine T_region ?_
    refine TL_y rfl rfl (Y_assign rfl) ?_
    refine TL_y rfl rfl (Y_assign rfl) ?_
    refine TL_nil ?_
    refine T_ret ?_
    refine thenS_ret ?_
    refine RetQ.gives (dk_close b bt s hi) ?_
    exact RetG_2 (.inl rfl) rfl (ResV.tmp rfl) (ResV.tmp rfl) GivesTo.g (⟨rfl, rfl⟩)
  · rw [show fptr s.l k = .pointer (some ⟨e.blk, 0, none⟩) by unfold fptr; rw [hf]; rfl]
    refine T_region ?_
    refine TL_y rfl rfl (Y_move rfl) ?_
    refine TL_y rfl rfl (Y_equal rfl rfl (EqIs.ptr_nil)) ?_
    refine TL_name 17 (v' := .bool false) rfl (by simp) ?_
    refine TL_nil ?_
    refine T_cond_false rfl ?_
    refine T_skip ?_
    refine thenS_normal ?_
    refine T_region ?_
    refine TL_y rfl rfl (Y_move rfl) ?_
    refine TL_y rfl rfl (Y_assign rfl) ?_
    refine TL_y rfl rfl (Y_assign rfl) ?_
    refine TL_nil ?_
    refine T_ret ?_
    refine RetQ.gives (dk_close b bt s hi) ?_
    exact RetG_2 (.inl rfl) rfl (ResV.tmp rfl) (ResV.tmp rfl) GivesTo.g (⟨rfl, rfl⟩)
end Go.SL
