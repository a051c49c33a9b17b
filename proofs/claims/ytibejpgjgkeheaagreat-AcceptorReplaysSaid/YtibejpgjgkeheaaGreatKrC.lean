/- What the laws of this claim need, together: the logic, data in memory, the walks of functions. -/
import Derived.Test.YtibejpgjgkeheaaGreatKrB
import Derived.Carry
import Derived.SizedLaws
import Derived.OpenShut
import Derived.ProofKit
set_option linter.unusedVariables false
set_option linter.unusedSimpArgs false
set_option linter.unusedVariables false
set_option linter.unusedSimpArgs false
namespace Go.SL
open Go Go.Proofs
def bNum (n : Int) : List Int := grp n.toNat
def bAll {α : Type} (b : α → List Int) (l : List α) : List Int := (l.map b).flatten
def bVec (v : List Int) : List Int := bNum (v.length : Int) ++ bAll bNum v
def bTruth (b : Bool) : List Int := bNum (if b then 1 else 0)
def bBal (a : Int × Int) : List Int := bNum a.1 ++ bNum a.2
def bSeal (x : OrderD) : List Int := txt x.token ++ (txt x.cart ++ (bNum x.epoch ++ bVec x.cut))
def bEntry (e : EntryD) : List Int := bTruth e.noop ++ (if e.noop = true then [] else bSeal e.order)
def bEvent (e : EventD) : List Int := bNum e.dot.1 ++ (bNum e.dot.2 ++ (bVec e.deps ++ (txt e.cart ++ (bNum e.epoch ++ (txt e.sku ++ (bNum e.qty ++ bTruth e.clears))))))
def bVoted (v : VotedD) : List Int := bNum v.slot ++ (bBal v.bal ++ bEntry v.en)
def bMsg (m : MsgD) : List Int := bNum m.kind ++ (bNum m.frm ++ (bNum m.to_ ++ (bBal m.bal ++ (bNum m.slot ++ (bEntry m.en ++ (bNum (m.voted.length : Int) ++ (bAll bVoted m.voted ++ (bVec m.seen ++ (bNum (m.events.length : Int) ++ (bAll bEvent m.events ++ bNum m.time))))))))))

/-! ### What is written -/
theorem wNum_ok {most n : Int} {s : WS} (hs : s.2 = false) (h : rNum most n) : wNum most n s = (s.1 ++ bNum n, false) := by
  unfold rNum at h; unfold wNum
  rw [if_neg (by omega), hs]; rfl
theorem wName_ok {t : ByteArray} {s : WS} (hs : s.2 = false) (h : isName t) : wName t s = (s.1 ++ txt t, false) := by
  have h2 := h.2.2
  unfold wName
  rw [wNum_ok (by simp [hs, h]) (by unfold rNum; omega)]
  simp [txt, bNum]
theorem wTruth_ok {b : Bool} {s : WS} (hs : s.2 = false) : wTruth b s = (s.1 ++ bTruth b, false) := by
  unfold wTruth; rw [wNum_ok hs (by cases b <;> simp [rNum])]; rfl
theorem wInts_ok : ∀ {v : List Int} {s : WS}, s.2 = false → (∀ n ∈ v, rNum 2147483647 n) → wInts v s = (s.1 ++ bAll bNum v, false)
  | [], s, hs, _ => by simp [wInts, bAll, ← hs]
  | n :: v, s, hs, h => by
    show wInts v (wNum 2147483647 n s) = _
    rw [wNum_ok hs (h n List.mem_cons_self), wInts_ok rfl (fun m hm => h m (List.mem_cons_of_mem _ hm))]
    simp [bAll]
theorem wVec_ok {v : List Int} {s : WS} (hs : s.2 = false) (h : rVec v) : wVec v s = (s.1 ++ bVec v, false) := by
  unfold wVec
  have h7 := h.2.1
  rw [wNum_ok (by simp [hs, h.2.2]) (by unfold rNum; omega), wInts_ok rfl h.1]
  simp [bVec]
theorem wBal_ok {a : Int × Int} {s : WS} (hs : s.2 = false) (h : rBal a) : wBal a s = (s.1 ++ bBal a, false) := by
  unfold wBal; rw [wNum_ok hs h.1, wNum_ok rfl h.2]; simp [bBal]
theorem wSeal_ok {x : OrderD} {s : WS} (hs : s.2 = false) (h : rSeal x) : wSeal x s = (s.1 ++ bSeal x, false) := by
  unfold wSeal; rw [wName_ok hs h.1, wName_ok rfl h.2.1, wNum_ok rfl h.2.2.1, wVec_ok rfl h.2.2.2]; simp [bSeal]
theorem wEntry_ok {e : EntryD} {s : WS} (hs : s.2 = false) (h : rEntry e) : wEntry e s = (s.1 ++ bEntry e, false) := by
  unfold rEntry at h
  unfold wEntry
  rw [wTruth_ok hs]
  simp only []
  split at h
  · rename_i hn; simp [bEntry, hn, h]
  · rename_i hn; rw [if_neg hn, wSeal_ok rfl h]; simp [bEntry, hn]
theorem wEvent_ok {e : EventD} {s : WS} (hs : s.2 = false) (h : rEvent e) : wEvent e s = (s.1 ++ bEvent e, false) := by
  obtain ⟨h1, h2, h3, h4, h5, h6, h7⟩ := h
  unfold wEvent; rw [wNum_ok hs h1, wNum_ok rfl h2, wVec_ok rfl h3, wName_ok rfl h4, wNum_ok rfl h5, wName_ok rfl h6, wNum_ok rfl h7, wTruth_ok rfl]; simp [bEvent]
theorem wVoted_ok {v : VotedD} {s : WS} (hs : s.2 = false) (h : rVoted v) : wVoted v s = (s.1 ++ bVoted v, false) := by
  unfold wVoted; rw [wNum_ok hs h.1, wBal_ok rfl h.2.1, wEntry_ok rfl h.2.2]; simp [bVoted]
theorem wVoteds_ok : ∀ {l : List VotedD} {s : WS}, s.2 = false → (∀ v ∈ l, rVoted v) → wVoteds l s = (s.1 ++ bAll bVoted l, false)
  | [], s, hs, _ => by simp [wVoteds, bAll, ← hs]
  | n :: v, s, hs, h => by
    show wVoteds v (wVoted n s) = _
    rw [wVoted_ok hs (h n List.mem_cons_self), wVoteds_ok rfl (fun m hm => h m (List.mem_cons_of_mem _ hm))]
    simp [bAll]
theorem wEvents_ok : ∀ {l : List EventD} {s : WS}, s.2 = false → (∀ v ∈ l, rEvent v) → wEvents l s = (s.1 ++ bAll bEvent l, false)
  | [], s, hs, _ => by simp [wEvents, bAll, ← hs]
  | n :: v, s, hs, h => by
    show wEvents v (wEvent n s) = _
    rw [wEvent_ok hs (h n List.mem_cons_self), wEvents_ok rfl (fun m hm => h m (List.mem_cons_of_mem _ hm))]
    simp [bAll]
theorem wMsg_ok {m : MsgD} {s : WS} (hs : s.2 = false) (h : rMsg m) : wMsg m s = (s.1 ++ bMsg m, false) := by
  obtain ⟨h1, h2, h3, h4, h5, h6, ⟨h7, h8⟩, h9, ⟨ha, hb⟩, hc⟩ := h
  unfold wMsg
  rw [wNum_ok hs h1, wNum_ok rfl h2, wNum_ok rfl h3, wBal_ok rfl h4, wNum_ok rfl h5, wEntry_ok rfl h6, wNum_ok (most := 4096) (n := (m.voted.length : Int)) rfl (by unfold rNum; omega), wVoteds_ok rfl h8, wVec_ok rfl h9, wNum_ok (most := 4096) (n := (m.events.length : Int)) rfl (by unfold rNum; omega), wEvents_ok rfl hb, wNum_ok rfl hc]
  simp [bMsg]

/-! ### No record's bytes begin another's -/
def PF {α : Type} (ok : α → Prop) (b : α → List Int) : Prop := ∀ x y r r', ok x → ok y → b x ++ r = b y ++ r' → x = y ∧ r = r'
theorem pf_grp {x y : Nat} {r r' : List Int} (hx : x < 18446744073709551616) (hy : y < 18446744073709551616) (h : grp x ++ r = grp y ++ r') : x = y ∧ r = r' := by
  have h1 := rdU_of_grp hx r
  rw [h] at h1
  obtain ⟨rfl, _, _⟩ := rdU_unique h1 (rdU_of_grp hy r')
  exact ⟨rfl, List.append_cancel_left h⟩
theorem pf_num {most : Int} (hm : most ≤ 4611686018427387904) : PF (rNum most) bNum := fun x y r r' hx hy h => by
  unfold rNum at hx hy
  obtain ⟨h1, h2⟩ := pf_grp (x := x.toNat) (y := y.toNat) (by omega) (by omega) h
  exact ⟨by omega, h2⟩
theorem pf_txt {s t : ByteArray} {r r' : List Int} (hs : s.size < 18446744073709551616) (ht : t.size < 18446744073709551616) (h : txt s ++ r = txt t ++ r') : s = t ∧ r = r' := by
  unfold txt at h
  rw [List.append_assoc, List.append_assoc] at h
  obtain ⟨h1, h2⟩ := pf_grp hs ht h
  obtain ⟨h3, h4⟩ := List.append_inj h2 (by rw [strBytes_length, strBytes_length, h1])
  exact ⟨strBytes_inj h3, h4⟩
theorem pf_name : PF isName txt := fun s t r r' hs ht h => pf_txt (by have := hs.2.2; omega) (by have := ht.2.2; omega) h
theorem pf_all {α : Type} {ok : α → Prop} {b : α → List Int} (hb : PF ok b) : ∀ (v w : List α) (r r' : List Int), v.length = w.length → (∀ x ∈ v, ok x) → (∀ x ∈ w, ok x) → bAll b v ++ r = bAll b w ++ r' → v = w ∧ r = r'
  | [], [], r, r', _, _, _, h => ⟨rfl, by simpa [bAll] using h⟩
  | [], y :: w, _, _, hl, _, _, _ => by simp at hl
  | x :: v, [], _, _, hl, _, _, _ => by simp at hl
  | x :: v, y :: w, r, r', hl, hv, hw, h => by
    simp only [bAll, List.map_cons, List.flatten_cons, List.append_assoc] at h
    obtain ⟨rfl, h2⟩ := hb x y _ _ (hv x List.mem_cons_self) (hw y List.mem_cons_self) h
    obtain ⟨rfl, h3⟩ := pf_all hb v w r r' (by simpa using hl) (fun x hx => hv x (List.mem_cons_of_mem _ hx)) (fun x hx => hw x (List.mem_cons_of_mem _ hx)) h2
    exact ⟨rfl, h3⟩
theorem pf_list {α : Type} {ok : α → Prop} {b : α → List Int} (hb : PF ok b) {v w : List α} {r r' : List Int} (hl : v.length ≤ 4096) (hl2 : w.length ≤ 4096) (hv : ∀ x ∈ v, ok x) (hw : ∀ x ∈ w, ok x) (h : bNum (v.length : Int) ++ (bAll b v ++ r) = bNum (w.length : Int) ++ (bAll b w ++ r')) : v = w ∧ r = r' := by
  obtain ⟨h1, h2⟩ := pf_num (most := 4096) (by decide) _ _ _ _ (by unfold rNum; omega) (by unfold rNum; omega) h
  exact pf_all hb v w r r' (by omega) hv hw h2
theorem pf_vec : PF rVec bVec := fun v w r r' hv hw h => by
  unfold bVec at h
  rw [List.append_assoc, List.append_assoc] at h
  have h7 := hv.2.1; have h8 := hw.2.1
  exact pf_list (pf_num (most := 2147483647) (by decide)) (by omega) (by omega) hv.1 hw.1 h
theorem pf_bal : PF rBal bBal := fun v w r r' hv hw h => by
  unfold bBal at h
  rw [List.append_assoc, List.append_assoc] at h
  obtain ⟨h1, h⟩ := pf_num (by decide) _ _ _ _ hv.1 hw.1 h
  obtain ⟨h2, h⟩ := pf_num (by decide) _ _ _ _ hv.2 hw.2 h
  exact ⟨Prod.ext h1 h2, h⟩
theorem pf_truth {a b : Bool} {r r' : List Int} (h : bTruth a ++ r = bTruth b ++ r') : a = b ∧ r = r' := by
  obtain ⟨h1, h2⟩ := pf_num (most := 1) (by decide) _ _ _ _ (by cases a <;> simp [rNum]) (by cases b <;> simp [rNum]) h
  exact ⟨by cases a <;> cases b <;> simp at h1 ⊢, h2⟩
theorem pf_seal : PF rSeal bSeal := fun v w r r' hv hw h => by
  unfold bSeal at h
  simp only [List.append_assoc] at h
  obtain ⟨h1, h⟩ := pf_name _ _ _ _ hv.1 hw.1 h
  obtain ⟨h2, h⟩ := pf_name _ _ _ _ hv.2.1 hw.2.1 h
  obtain ⟨h3, h⟩ := pf_num (by decide) _ _ _ _ hv.2.2.1 hw.2.2.1 h
  obtain ⟨h4, h⟩ := pf_vec _ _ _ _ hv.2.2.2 hw.2.2.2 h
  refine ⟨?_, h⟩
  cases v; cases w
  simp only at h1 h2 h3 h4
  subst h1; subst h2; subst h3; subst h4
  rfl
theorem some_none {x : OrderD} (h : someSeal x = false) : x = ⟨emptyS, emptyS, 0, []⟩ := by
  cases x with
  | mk t c n v =>
    simp only [someSeal, Bool.or_eq_false_iff, decide_eq_false_iff_not, Classical.not_not] at h
    obtain ⟨⟨⟨rfl, rfl⟩, rfl⟩, h⟩ := h
    obtain rfl : v = [] := List.eq_nil_of_length_eq_zero (by omega)
    rfl
theorem pf_entry : PF rEntry bEntry := fun v w r r' hv hw h => by
  unfold bEntry at h
  rw [List.append_assoc, List.append_assoc] at h
  obtain ⟨h1, h⟩ := pf_truth h
  unfold rEntry at hv hw
  cases v with
  | mk a x =>
  cases w with
  | mk b y =>
  simp only at h1 h hv hw
  subst h1
  cases a with
  | true =>
    simp only [if_true] at h hv hw
    rw [some_none hv, some_none hw]
    exact ⟨rfl, by simpa using h⟩
  | false =>
    simp only [Bool.false_eq_true, if_false] at h hv hw
    obtain ⟨hz, hy⟩ := pf_seal _ _ _ _ hv hw h
    subst hz
    exact ⟨rfl, hy⟩
theorem pf_event : PF rEvent bEvent := fun v w r r' hv hw h => by
  unfold bEvent at h
  simp only [List.append_assoc] at h
  obtain ⟨v1, v2, v3, v4, v5, v6, v7⟩ := hv
  obtain ⟨w1, w2, w3, w4, w5, w6, w7⟩ := hw
  obtain ⟨h1, h⟩ := pf_num (by decide) _ _ _ _ v1 w1 h
  obtain ⟨h2, h⟩ := pf_num (by decide) _ _ _ _ v2 w2 h
  obtain ⟨h3, h⟩ := pf_vec _ _ _ _ v3 w3 h
  obtain ⟨h4, h⟩ := pf_name _ _ _ _ v4 w4 h
  obtain ⟨h5, h⟩ := pf_num (by decide) _ _ _ _ v5 w5 h
  obtain ⟨h6, h⟩ := pf_name _ _ _ _ v6 w6 h
  obtain ⟨h7, h⟩ := pf_num (by decide) _ _ _ _ v7 w7 h
  obtain ⟨h8, h⟩ := pf_truth h
  refine ⟨?_, h⟩
  cases v; cases w
  simp only at h1 h2 h3 h4 h5 h6 h7 h8
  subst h3; subst h4; subst h5; subst h6; subst h7; subst h8
  rw [Prod.ext h1 h2]
theorem pf_voted : PF rVoted bVoted := fun v w r r' hv hw h => by
  unfold bVoted at h
  simp only [List.append_assoc] at h
  obtain ⟨h1, h⟩ := pf_num (by decide) _ _ _ _ hv.1 hw.1 h
  obtain ⟨h2, h⟩ := pf_bal _ _ _ _ hv.2.1 hw.2.1 h
  obtain ⟨h3, h⟩ := pf_entry _ _ _ _ hv.2.2 hw.2.2 h
  refine ⟨?_, h⟩
  cases v; cases w
  simp only at h1 h2 h3
  subst h1; subst h2; subst h3
  rfl
theorem pf_msg : PF rMsg bMsg := fun v w r r' hv hw h => by
  unfold bMsg at h
  simp only [List.append_assoc] at h
  obtain ⟨v1, v2, v3, v4, v5, v6, ⟨v7, v8⟩, v9, ⟨va, vb⟩, vc⟩ := hv
  obtain ⟨w1, w2, w3, w4, w5, w6, ⟨w7, w8⟩, w9, ⟨wa, wb⟩, wc⟩ := hw
  obtain ⟨h1, h⟩ := pf_num (by decide) _ _ _ _ v1 w1 h
  obtain ⟨h2, h⟩ := pf_num (by decide) _ _ _ _ v2 w2 h
  obtain ⟨h3, h⟩ := pf_num (by decide) _ _ _ _ v3 w3 h
  obtain ⟨h4, h⟩ := pf_bal _ _ _ _ v4 w4 h
  obtain ⟨h5, h⟩ := pf_num (by decide) _ _ _ _ v5 w5 h
  obtain ⟨h6, h⟩ := pf_entry _ _ _ _ v6 w6 h
  obtain ⟨h7, h⟩ := pf_list pf_voted v7 w7 v8 w8 h
  obtain ⟨h8, h⟩ := pf_vec _ _ _ _ v9 w9 h
  obtain ⟨h9, h⟩ := pf_list pf_event va wa vb wb h
  obtain ⟨ha, h⟩ := pf_num (by decide) _ _ _ _ vc wc h
  refine ⟨?_, h⟩
  cases v; cases w
  simp only at h1 h2 h3 h4 h5 h6 h7 h8 h9 ha
  subst h1; subst h2; subst h3; subst h4; subst h5; subst h6; subst h7; subst h8; subst h9; subst ha
  rfl
end Go.SL
set_option linter.unusedVariables false
set_option linter.unusedSimpArgs false
namespace Go.SL
open Go Go.Proofs

theorem refReadText_spec {L : List HP} {A : Option Addr} {c : Nat} {bs : List Int} (hk : SlK L (intR .u8) A c bs) (most : Int) (hm : intIn .i64 most) : Fn Tryz.prog 82 #[.slice A bs.length c, .int .i64 most] L (fun v L' => (∃ (s : ByteArray) (n e : Nat), v = .tuple #[.string s, .int .i64 (n : Int), .int .i64 (e : Int)] ∧ RdT bs most s n e) ∧ L' = L) := by
  have hm := i64In hm
  refine Fn_enter Tryz.func82 rfl rfl rfl rfl ?_
  refine hk.lens fun hl => ?_
  refine T_fact hk.all_int (fun _ h => h) fun hall => ?_
  simp only [maxEl] at hl
  refine T_region ?_
  refine TL_y rfl rfl (Y_assign rfl) ?_
  refine TL_y rfl rfl (Y_assign rfl) ?_
  refine TL_y rfl rfl (Y_assign rfl) ?_
  refine TL_nil ?_
  refine T_region ?_
  refine TL_y rfl rfl (Y_move rfl) ?_
  refine TL_call rfl rfl (refReadUint_spec hk) ?_
  rintro _ _ ⟨⟨n, k, e, rfl, hr⟩, rfl⟩
  have he := rdU_e hr
  refine TL_y rfl rfl (Y_move rfl) ?_
  refine TL_y rfl rfl (Y_extract rfl rfl) ?_
  refine TL_y rfl rfl (Y_extract rfl rfl) ?_
  refine TL_y rfl rfl (Y_extract rfl rfl) ?_
  refine TL_y rfl rfl (Y_assign rfl) ?_
  refine TL_y rfl rfl (Y_assign rfl) ?_
  refine TL_y rfl rfl (Y_assign rfl) ?_
  refine TL_nil ?_
  refine T_seq ?_
  refine T_region ?_
  refine TL_y rfl rfl (Y_move rfl) ?_
  refine TL_y rfl rfl (Y_ne rfl rfl) ?_
  refine TL_y rfl rfl (Y_move rfl) ?_
  refine TL_splitd 18 rfl (fun h18 => ?_) (fun h18 => ?_)
  · refine TL_gskip rfl rfl rfl rfl ?_
    refine TL_gskip rfl rfl rfl rfl ?_
    refine TL_y rfl rfl (Y_pick_t rfl rfl) ?_
    refine TL_y rfl rfl (Y_move rfl) ?_
    refine TL_gskip rfl rfl rfl rfl ?_
    refine TL_gskip rfl rfl rfl rfl ?_
    refine TL_gskip rfl rfl rfl rfl ?_
    refine TL_gskip rfl rfl rfl rfl ?_
    refine TL_y rfl rfl (Y_pick_t rfl rfl) ?_
    refine TL_y rfl rfl (Y_move rfl) ?_
    refine TL_gskip rfl rfl rfl rfl ?_
    refine TL_gskip rfl rfl rfl rfl ?_
    refine TL_gskip rfl rfl rfl rfl ?_
    refine TL_gskip rfl rfl rfl rfl ?_
    refine TL_gskip rfl rfl rfl rfl ?_
    refine TL_gskip rfl rfl rfl rfl ?_
    refine TL_gskip rfl rfl rfl rfl ?_
    refine TL_y rfl rfl (Y_pick_t rfl rfl) ?_
    refine TL_nil ?_
    refine T_cond_true rfl ?_
    refine T_region ?_
    refine TL_y rfl rfl (Y_assign rfl) ?_
    refine TL_y rfl rfl (Y_assign rfl) ?_
    refine TL_y rfl rfl (Y_assign rfl) ?_
    refine TL_nil ?_
    refine T_ret ?_
    refine thenS_ret ?_
    exact RetG_3 (.inl rfl) rfl (ResV.tmp rfl) (ResV.tmp rfl) (ResV.tmp rfl) GivesTo.g (⟨⟨⟨#[]⟩, 0, 10, rfl, by rcases he with ⟨rfl, _⟩ | ⟨rfl, _⟩; exact rdT_bad hm.2 hr (by omega); exact rdT_none hm.2 hr⟩, rfl⟩)
  · refine TL_grun rfl rfl ?_
    refine TL_y rfl rfl (Y_move rfl) ?_
    refine TL_grun rfl rfl ?_
    refine TL_y rfl rfl (Y_lt rfl rfl) ?_
    refine TL_y rfl rfl (Y_pick_f rfl rfl) ?_
    refine TL_y rfl rfl (Y_move rfl) ?_
    refine TL_splitd 22 rfl (fun h22 => ?_) (fun h22 => ?_)
    · refine TL_gskip rfl rfl rfl rfl ?_
      refine TL_gskip rfl rfl rfl rfl ?_
      refine TL_gskip rfl rfl rfl rfl ?_
      refine TL_gskip rfl rfl rfl rfl ?_
      refine TL_y rfl rfl (Y_pick_t rfl rfl) ?_
      refine TL_y rfl rfl (Y_move rfl) ?_
      refine TL_gskip rfl rfl rfl rfl ?_
      refine TL_gskip rfl rfl rfl rfl ?_
      refine TL_gskip rfl rfl rfl rfl ?_
      refine TL_gskip rfl rfl rfl rfl ?_
      refine TL_gskip rfl rfl rfl rfl ?_
      refine TL_gskip rfl rfl rfl rfl ?_
      refine TL_gskip rfl rfl rfl rfl ?_
      refine TL_y rfl rfl (Y_pick_t rfl rfl) ?_
      refine TL_nil ?_
      refine T_cond_true rfl ?_
      refine T_region ?_
      refine TL_y rfl rfl (Y_assign rfl) ?_
      refine TL_y rfl rfl (Y_assign rfl) ?_
      refine TL_y rfl rfl (Y_assign rfl) ?_
      refine TL_nil ?_
      refine T_ret ?_
      refine thenS_ret ?_
      exact RetG_3 (.inl rfl) rfl (ResV.tmp rfl) (ResV.tmp rfl) (ResV.tmp rfl) GivesTo.g (⟨⟨⟨#[]⟩, 0, 10, rfl, by rcases he with ⟨rfl, _⟩ | ⟨rfl, _⟩; exact rdT_bad hm.2 hr (by omega); exact rdT_none hm.2 hr⟩, rfl⟩)
    · refine TL_grun rfl rfl ?_
      refine TL_y rfl rfl (Y_move rfl) ?_
      refine TL_grun rfl rfl ?_
      refine TL_y rfl rfl (Y_move rfl) ?_
      refine TL_grun rfl rfl ?_
      refine TL_y rfl rfl (Y_conv rfl) ?_
      refine TL_name 25 (v' := .int .u64 most) rfl (by rw [show most = ((most.toNat : Nat) : Int) by omega, u64_small (by omega)]) ?_
      refine TL_grun rfl rfl ?_
      refine TL_y rfl rfl (Y_gt rfl rfl) ?_
      refine TL_y rfl rfl (Y_pick_f rfl rfl) ?_
      refine TL_y rfl rfl (Y_move rfl) ?_
      refine TL_splitd 28 rfl (fun h28 => ?_) (fun h28 => ?_)
      · refine TL_gskip rfl rfl rfl rfl ?_
        refine TL_gskip rfl rfl rfl rfl ?_
        refine TL_gskip rfl rfl rfl rfl ?_
        refine TL_gskip rfl rfl rfl rfl ?_
        refine TL_gskip rfl rfl rfl rfl ?_
        refine TL_gskip rfl rfl rfl rfl ?_
        refine TL_gskip rfl rfl rfl rfl ?_
        refine TL_y rfl rfl (Y_pick_t rfl rfl) ?_
        refine TL_nil ?_
        refine T_cond_true rfl ?_
        refine T_region ?_
        refine TL_y rfl rfl (Y_assign rfl) ?_
        refine TL_y rfl rfl (Y_assign rfl) ?_
        refine TL_y rfl rfl (Y_assign rfl) ?_
        refine TL_nil ?_
        refine T_ret ?_
        refine thenS_ret ?_
        exact RetG_3 (.inl rfl) rfl (ResV.tmp rfl) (ResV.tmp rfl) (ResV.tmp rfl) GivesTo.g (⟨⟨⟨#[]⟩, 0, 10, rfl, by rcases he with ⟨rfl, _⟩ | ⟨rfl, _⟩; exact rdT_bad hm.2 hr (by omega); exact rdT_none hm.2 hr⟩, rfl⟩)
      · refine TL_grun rfl rfl ?_
        refine TL_y rfl rfl (Y_move rfl) ?_
        refine TL_grun rfl rfl ?_
        refine TL_y rfl rfl (Y_move rfl) ?_
        refine TL_grun rfl rfl ?_
        refine TL_y rfl rfl (Y_len rfl) ?_
        refine TL_grun rfl rfl ?_
        refine TL_y rfl rfl (Y_move rfl) ?_
        refine TL_grun rfl rfl ?_
        refine TL_y rfl rfl (Y_sub rfl rfl (by omega)) ?_
        refine TL_name 33 (v' := .int .i64 ((bs.length - k : Nat) : Int)) rfl (by congr 1; omega) ?_
        refine TL_grun rfl rfl ?_
        refine TL_y rfl rfl (Y_conv rfl) ?_
        refine TL_name 34 (v' := .int .u64 ((bs.length - k : Nat) : Int)) rfl (by rw [u64_small (by omega)]) ?_
        refine TL_grun rfl rfl ?_
        refine TL_y rfl rfl (Y_gt rfl rfl) ?_
        refine TL_y rfl rfl (Y_pick_f rfl rfl) ?_
        refine TL_nil ?_
        refine T_if rfl (fun h36 => ?_) (fun h36 => ?_)
        · refine T_region ?_
          refine TL_y rfl rfl (Y_assign rfl) ?_
          refine TL_y rfl rfl (Y_assign rfl) ?_
          refine TL_y rfl rfl (Y_assign rfl) ?_
          refine TL_nil ?_
          refine T_ret ?_
          refine thenS_ret ?_
          exact RetG_3 (.inl rfl) rfl (ResV.tmp rfl) (ResV.tmp rfl) (ResV.tmp rfl) GivesTo.g (⟨⟨⟨#[]⟩, 0, 10, rfl, by rcases he with ⟨rfl, _⟩ | ⟨rfl, _⟩; exact rdT_bad hm.2 hr (by omega); exact rdT_none hm.2 hr⟩, rfl⟩)
        · refine T_skip ?_
          refine thenS_normal ?_
          refine T_region ?_
          have he0 : e = 0 := by omega
          subst he0
          refine TL_y rfl rfl (Y_move rfl) ?_
          refine TL_y rfl rfl (Y_move rfl) ?_
          refine TL_y rfl rfl (Y_move rfl) ?_
          refine TL_y rfl rfl (Y_move rfl) ?_
          refine TL_y rfl rfl (Y_conv rfl) ?_
          refine TL_name 41 (v' := .int .i64 (n : Int)) rfl (by rw [IntWalk.i64_in _ (by omega)]) ?_
          refine TL_y rfl rfl (Y_add rfl rfl (by omega)) ?_
          refine TL_name 42 (v' := .int .i64 ((k + n : Nat) : Int)) rfl (rfl) ?_
          refine TL_y rfl rfl (Y_cut_lh rfl rfl rfl (by omega)) ?_
          refine TL_name 43 (v' := .slice (cutA A k c 1) ((bs.take (k + n)).drop k).length (c - k)) rfl (by simp; omega) ?_
          refine TL_y rfl rfl (Y_bytes_str rfl (hk.cut k (k + n) c (by omega) (by omega) (by omega))) ?_
          refine TL_y rfl rfl (Y_move rfl) ?_
          refine TL_y rfl rfl (Y_move rfl) ?_
          refine TL_y rfl rfl (Y_conv rfl) ?_
          refine TL_name 47 (v' := .int .i64 (n : Int)) rfl (by rw [IntWalk.i64_in _ (by omega)]) ?_
          refine TL_y rfl rfl (Y_add rfl rfl (by omega)) ?_
          refine TL_name 48 (v' := .int .i64 ((k + n : Nat) : Int)) rfl (rfl) ?_
          refine TL_y rfl rfl (Y_assign rfl) ?_
          refine TL_y rfl rfl (Y_assign rfl) ?_
          refine TL_y rfl rfl (Y_assign rfl) ?_
          refine TL_nil ?_
          refine T_ret ?_
          exact RetG_3 (.inl rfl) rfl (ResV.tmp rfl) (ResV.tmp rfl) (ResV.tmp rfl) GivesTo.g (⟨⟨strOfNums ((bs.take (k + n)).drop k), k + n, 0, rfl, rdT_done hr (u8_all hall) (by omega) (by omega)⟩, rfl⟩)

end Go.SL
set_option linter.unusedVariables false
set_option linter.unusedSimpArgs false
set_option linter.unusedSectionVars false
namespace Go.SL
open Go Go.Lib
/-- The elements' words are of M, their cells lie in N. -/
def sliceAt2 {α : Type} (M N : Mem) (R : Rep α) (A : Option Addr) (c : Nat) (xs : List α) : Prop :=
  xs.length ≤ c ∧ xs.length ≤ maxEl ∧ (xs = [] ∨ ∃ b o, A = some ⟨b, o, none⟩ ∧ ∃ cs t fr, N b = some (.cells cs t fr) ∧ ∀ i x, xs[i]? = some x → ∃ l, R.rep M x l ∧ ∀ j v, l[j]? = some v → cs[o + i * R.sz + j]? = some v)
def SlN {α : Type} (L : List HP) (R : Rep α) (A : Option Addr) (c : Nat) (xs : List α) : Prop := ∀ M h N, M.disj h → Sep L M h → M.le N → h.le N → sliceAt2 M N R A c xs
section
variable {α : Type} {R : Rep α} {A : Option Addr} {c : Nat} {xs : List α} {L L' : List HP}
theorem SlK.n (h : SlK L R A c xs) : SlN L R A c xs := fun M k N hd hs hM hk => by
  obtain ⟨a, b, e⟩ := h M k hs
  refine ⟨a, b, e.imp id ?_⟩
  rintro ⟨b, o, rfl, cs, t, fr, hb, hall⟩
  exact ⟨b, o, rfl, cs, t, fr, hM _ _ hb, hall⟩
theorem SlN.tail {p : HP} (h : SlN L R A c xs) : SlN (p :: L) R A c xs := fun M k N hd ⟨h1, h2, hd', l1, l2, hp, hs⟩ hM hk => h M h2 N (Mem.disj_le hd (Mem.le_refl _) l2) hs hM (Mem.le_trans l2 hk)
theorem SlN.of_gives (g : Gives L L') (h : SlN L' R A c xs) : SlN L R A c xs := fun M k N hd hs hM hk => h M k N hd (g M k hs) hM hk
theorem osl_n {t : TypeId} : SlN (osl R t A c xs :: L) R A c xs := fun M k N hd ⟨h1, h2, hd', l1, l2, hp, hs⟩ hM hk => by
  refine ⟨?_, hp.1, ?_⟩
  · rcases hp.2 with ⟨rfl, rfl⟩ | ⟨g, cur, _, _, _, hl, _⟩
    · simp
    · exact hl
  · rcases hp.2 with ⟨_, e⟩ | ⟨g, cur, e, hg, hsz, hl, hc, hx⟩
    · exact .inl e
    · exact .inr ⟨g, 0, e, cur, t, (0, 0), hk _ _ (l1 _ _ hg), fun i x hi => let ⟨l, a, b⟩ := hx i x hi; ⟨l, a, fun j v hj => by rw [Nat.zero_add]; exact b j v hj⟩⟩
theorem SlN.nil : SlN L R A c ([] : List α) := fun M k N _ _ _ _ => ⟨Nat.zero_le _, Nat.zero_le _, .inl rfl⟩
theorem SlN.len (h : SlN L R A c xs) {W w : World} (hs : Sat W w L) : xs.length ≤ c ∧ xs.length ≤ maxEl := by
  obtain ⟨M, k, hd, hM, hk, hsep⟩ := hs.ex
  have := h M k (heapOf w) hd hsep hM hk
  exact ⟨this.1, this.2.1⟩
end
class FindN (L : List HP) (A : Option Addr) (c : Nat) (α : outParam Type) (R : outParam (Rep α)) (xs : outParam (List α)) : Prop where
  k : SlN L R A c xs
instance findN_tail {p : HP} {L : List HP} {A : Option Addr} {c : Nat} {α : Type} {R : Rep α} {xs : List α} [h : FindN L A c α R xs] : FindN (p :: L) A c α R xs := ⟨h.k.tail⟩
instance findN_sl {L : List HP} {A : Option Addr} {c : Nat} {α : Type} {R : Rep α} {xs : List α} : FindN (sl R A c xs :: L) A c α R xs := ⟨SlK.n (Knows.head' fun _ _ h => h)⟩
instance findN_osl {L : List HP} {A : Option Addr} {c : Nat} {α : Type} {R : Rep α} {t : TypeId} {xs : List α} : FindN (osl R t A c xs :: L) A c α R xs := ⟨osl_n⟩
theorem sln {L : List HP} {A : Option Addr} {c : Nat} {α : Type} {R : Rep α} {xs : List α} [h : FindN L A c α R xs] : SlN L R A c xs := h.k
section
variable {r : Option Nat} {n : Nat} {P : Program} {ops : Array Oper} {rest : List Oper} {K : St → Prop} {Q : Exit → St → Prop} {D : List Deferred} {E : Env} {L L' : List HP} {d : Nat} {ty : TypeId} {pos : String} {af : Array Edge}
variable {α : Type} {R : Rep α} {A : Option Addr} {c : Nat} {xs ys : List α}
theorem SlN.lens {c' : Code} (hk : SlN L R A c xs) (h : xs.length ≤ c ∧ xs.length ≤ maxEl → T r n P c' ⟨D, E, L⟩ Q) : T r n P c' ⟨D, E, L⟩ Q := fun W a w hh => h (hk.len hh.2) W a w hh
theorem SlN.lensL (hk : SlN L R A c xs) (h : xs.length ≤ c ∧ xs.length ≤ maxEl → TL r n P ops rest ⟨D, E, L⟩ K) : TL r n P ops rest ⟨D, E, L⟩ K := fun W a w hh => h (hk.len hh.2) W a w hh
theorem SlN.none_nil {c' : Code} (hk : SlN L R none c xs) (h : xs = [] → T r n P c' ⟨D, E, L⟩ Q) : T r n P c' ⟨D, E, L⟩ Q := fun W a w hh => by
  obtain ⟨M, k, hd, hM, hk', hsep⟩ := hh.2.ex
  rcases (hk M k (heapOf w) hd hsep hM hk').2.2 with e | ⟨b, o, e, _⟩
  · exact h e W a w hh
  · cases e
theorem cells_of_slice2 {M N : Mem} {w : World} (hN : N.le (heapOf w)) (h : sliceAt2 M N R A c xs) : ∃ cs, CellsOf M R xs cs ∧ (xs.length = 0 ∨ ∃ a, A = some a ∧ ∀ j v, cs[j]? = some v → w.cell? (a.add j) = some v) := by
  rcases h.2.2 with rfl | ⟨b, o, rfl, cur, t, fr, hb, hall⟩
  · exact ⟨[], rfl, .inl rfl⟩
  · obtain ⟨cs, h1, h2⟩ := cells_of_array (R := R) (M := M) (cur := cur) (o := o) (xs := xs) (k := 0) (fun i x hi => by
      obtain ⟨l, a, b⟩ := hall i x hi
      exact ⟨l, a, fun j v hj => by rw [Nat.zero_add]; exact b j v hj⟩)
    refine ⟨cs, h1, .inr ⟨_, rfl, fun j v hj => ?_⟩⟩
    rw [Addr.add_plain, cell_of (hN _ _ hb)]
    simpa using h2 j v hj
/-- append to a slice that is ours of one that is read. -/
theorem TL_append_n {x y : Operand} {t u e : TypeId} {z : Value} {bytes c2 : Nat} {A2 : Option Addr} {L0 : List HP} [ht : TyDesc P t (.slice e)] [hu : TyDesc P u (.slice e)] (hd : Nat.blt d n = true) (hx : ev E x = some (.slice A xs.length c)) (hy : ev E y = some (.slice A2 ys.length c2)) [hf : FindO L A c α R e xs L0]
    [he : TyElem P e z R.sz bytes] (hz : z.cells.size = R.sz) (hb : Nat.blt 0 bytes = true) (hsrc : SlN L0 R A2 c2 ys) (hfit : (xs.length + ys.length) * bytes ≤ 140737488355328)
    (h : ∀ A' c', TL r n P ops rest ⟨D, (d, .slice A' (xs ++ ys).length c') :: E, osl R e A' c' (xs ++ ys) :: L0⟩ K) :
    TL r n P ops (⟨some d, .call { callee := .builtin .append, args := #[x, y], argTypes := #[t, u] }, ty, pos, af, none⟩ :: rest) ⟨D, E, L⟩ K :=
  TL_val rfl hd rfl (fun _ e => by cases e) fun W a w hh => by
    have hs := hh.2.gives hf.g
    obtain ⟨M', k', hd1', hM', hk', g1, g2, gd, m1, m2, hp, hsep'⟩ := hs.ex
    obtain ⟨cs, h1, h2⟩ := cells_of_slice2 (Mem.le_refl _) (hsrc M' g2 (heapOf w) (Mem.disj_le hd1' (Mem.le_refl _) m2) hsep' hM' (Mem.le_trans m2 hk'))
    have hsl : Src P u R.sz (.slice A2 ys.length c2) ys.length cs w := src_slice (u := u) (e := e) h2 h1.length h1.one
    have hsat : Sat W w (osl R e A c xs :: pers (fun M => CellsOf M R ys cs) (fun hM h => cellsOf_mono hM h) :: L0) :=
      ⟨⟨M', k', hd1', hM', hk', g1, g2, gd, m1, m2, hp, Mem.emp, g2, Mem.emp_disj _, Mem.emp_le _, Mem.le_refl _, h1, hsep'⟩, hs.os, hs.tape, hs.output, hs.size⟩
    obtain ⟨A', c', w', hr, hs'⟩ := append_own (P := P) (t := t) (u := u) (by simpa using hb) hz hsat hsl (fun N m hm _ => by obtain ⟨_, _, _, _, _, hp, _⟩ := hm; exact hp) hfit ty
    refine ⟨_, w', _, ?_, hs'.gives (Gives.cons _ (Gives.drop _ _)), h A' c'⟩
    simp [execOp, resolve, invoke, builtin, hh.1.ev hx, hh.1.ev hy, hr]
/-! ### Elements, wherever they lie -/
theorem TL_index_n {x i : Operand} {t e : TypeId} {ik : IntKind} {j k : Nat} {u : α} [ht : TyDesc P t (.slice e)] [hz : TySize P e R.sz] (hd : Nat.blt d n = true) (hx : ev E x = some (.slice A k c)) (hi : ev E i = some (.int ik (j : Int))) (hkl : k = xs.length) (hk : SlN L R A c xs) (hu : xs[j]? = some u)
    (h : ∀ b o, A = some ⟨b, o, none⟩ → SlN L R (some ⟨b, o, none⟩) c xs → TL r n P ops rest ⟨D, (d, .pointer (some ⟨b, o + j * R.sz + 0, none⟩)) :: E, L⟩ K) : TL r n P ops (⟨some d, .indexAddr t x i, ty, pos, af, none⟩ :: rest) ⟨D, E, L⟩ K := fun W a w hh => by
  subst hkl
  obtain ⟨M, q, hd', hM, hq, hsep⟩ := hh.2.ex
  rcases (hk M q (heapOf w) hd' hsep hM hq).2.2 with e | ⟨b, o, e, _⟩
  · rw [e] at hu; simp at hu
  · subst e
    have hlt : j < xs.length := (List.getElem?_eq_some_iff.1 hu).1
    exact TL_y hd rfl (Y_index_at hx hi hlt (b := b) (o := o + j * R.sz) ⟨o, rfl, rfl⟩) (h b o rfl hk) W a w hh
theorem Y_index_n {x i : Operand} {t e : TypeId} {ik : IntKind} {j k b o : Nat} {u : α} [ht : TyDesc P t (.slice e)] [hz : TySize P e R.sz] (hx : ev E x = some (.slice (some ⟨b, o, none⟩) k c)) (hi : ev E i = some (.int ik (j : Int))) (hkl : k = xs.length) (hu : xs[j]? = some u) :
    Yl P E L (.indexAddr t x i) ty (.pointer (some ⟨b, o + j * R.sz + 0, none⟩)) := by
  subst hkl
  have hlt : j < xs.length := (List.getElem?_eq_some_iff.1 hu).1
  exact Y_index_at hx hi hlt (b := b) (o := o + j * R.sz) ⟨o, rfl, rfl⟩
/-- Where a slice lies that is not empty. -/
theorem T_addr_n {c' : Code} {j : Nat} {u : α} (hk : SlN L R A c xs) (hu : xs[j]? = some u) (h : ∀ b o, A = some ⟨b, o, none⟩ → T r n P c' ⟨D, E, L⟩ Q) : T r n P c' ⟨D, E, L⟩ Q := fun W a w hh => by
  obtain ⟨M, q, hd', hM, hq, hsep⟩ := hh.2.ex
  rcases (hk M q (heapOf w) hd' hsep hM hq).2.2 with e | ⟨b, o, e, _⟩
  · rw [e] at hu; simp at hu
  · exact h b o e W a w hh
theorem elem_n {b o j : Nat} {u : α} (hk : SlN L R (some ⟨b, o, none⟩) c xs) (hu : xs[j]? = some u) {W w : World} (hs : Sat W w L) : ∃ l, l.length = R.sz ∧ Sat W w (is R u l :: L) ∧ ∀ q v, l[q]? = some v → w.cell? ⟨b, o + j * R.sz + q, none⟩ = some v := by
  obtain ⟨M, k, hd', hM, hq, hsep⟩ := hs.ex
  rcases (hk M k (heapOf w) hd' hsep hM hq).2.2 with e | ⟨b', o', e, cs, t, fr, hb, hall⟩
  · rw [e] at hu; simp at hu
  · cases e
    obtain ⟨l, hl, hc⟩ := hall j u hu
    refine ⟨l, R.len hl, ⟨⟨M, k, hd', hM, hq, Mem.emp, k, Mem.emp_disj _, Mem.emp_le _, Mem.le_refl _, hl, hsep⟩, hs.os, hs.tape, hs.output, hs.size⟩, fun q v hv => ?_⟩
    rw [cell_of hb]
    exact hc q v hv
theorem run_load_at {t : TypeId} {b o q m : Nat} {l vs : List Value} {w : World} [ht : TyAgg P t true] [hz : TySize P t m] (hc : ∀ q v, l[q]? = some v → w.cell? ⟨b, o + q, none⟩ = some v) (hv : cutN q m l = some vs) : (loadVar t ⟨b, o + q, none⟩).run P w = .ok (.agg vs.toArray) w := by
  obtain ⟨e, hl⟩ := cutN_eq hv
  refine run_loadVar_agg (hk := by rw [e]; simp; omega) (fun i v hi => ?_)
  rw [e, List.getElem?_take] at hi
  split at hi
  · rw [List.getElem?_drop] at hi
    have := hc _ _ hi
    rwa [Nat.add_assoc]
  · cases hi
section ex
variable {β : Type} {sz : Nat} {f : α → β → List Value} {g : α → β → List HP} {ok : α → Prop} {hlen : ∀ x p, (f x p).length = sz} {hone : ∀ x p, oneN (f x p) = true}
theorem sat_ex {u : α} {l : List Value} {W w : World} (h : Sat W w (is (exR sz f g ok hlen hone) u l :: L)) : ∃ p, l = f u p ∧ ok u ∧ Sat W w (g u p ++ L) := by
  obtain ⟨M, k, hd, hM, hk, h3, h4, hd2, l3, l4, ⟨p, e, hs, hok⟩, hL⟩ := h.ex
  exact ⟨p, e, hok, ⟨M, k, hd, hM, hk, sep_app hs (Sep.mono (Mem.le_refl _) l4 hL)⟩, h.os, h.tape, h.output, h.size⟩
/-- Of elements that hold slices: a part of several cells. -/
theorem TL_load_nx {x : Operand} {t : TypeId} {b o j q m : Nat} {u : α} {vs : β → List Value} [ht : TyAgg P t true] [hz : TySize P t m] (hd : Nat.blt d n = true) (hx : ev E x = some (.pointer (some ⟨b, o + j * sz + q, none⟩))) (hk : SlN L (exR sz f g ok hlen hone) (some ⟨b, o, none⟩) c xs) (hu : xs[j]? = some u) (hv : ∀ p, cutN q m (f u p) = some (vs p))
    (h : ∀ p, ok u → TL r n P ops rest ⟨D, (d, .agg (vs p).toArray) :: E, g u p ++ L⟩ K) : TL r n P ops (⟨some d, .load t x, ty, pos, af, none⟩ :: rest) ⟨D, E, L⟩ K :=
  TL_val rfl hd rfl (fun _ e => by cases e) fun W a w hh => by
    obtain ⟨l, hl, hs, hc⟩ := elem_n hk hu hh.2
    obtain ⟨p, rfl, hok, hs2⟩ := sat_ex hs
    have hc : ∀ (q : Nat) (v : Value), (f u p)[q]? = some v → w.cell? ⟨b, o + j * sz + q, none⟩ = some v := hc
    exact ⟨_, w, _, by simp only [execOp, hh.1.ev hx, Instr.loadAt, Instr.sureAddr, Sem.run_bind, Sem.run_pure, Result.andThen_ok, run_load_at hc (hv p)], hs2, h p hok⟩
/-- One cell that tells of no slice: it only reckons. -/
theorem Y_load_nx {x : Operand} {t : TypeId} {b o j q : Nat} {u : α} {v : Value} [ht : TyAgg P t false] (hx : ev E x = some (.pointer (some ⟨b, o + j * sz + q, none⟩))) (hk : SlN L (exR sz f g ok hlen hone) (some ⟨b, o, none⟩) c xs) (hu : xs[j]? = some u) (hv : ∀ p, cellN (f u p) q = some v) : Yl P E L (.load t x) ty v := fun n D W a w dst pos af gd ha hs => by
  obtain ⟨l, hl, hs1, hc⟩ := elem_n hk hu hs
  obtain ⟨p, rfl, hok, hs2⟩ := sat_ex hs1
  have hc : ∀ (q : Nat) (v : Value), (f u p)[q]? = some v → w.cell? ⟨b, o + j * sz + q, none⟩ = some v := hc
  simp only [execOp, ha.ev hx, Instr.loadAt, Instr.sureAddr, Sem.run_bind, Sem.run_pure, Result.andThen_ok, run_loadVar_one (hc q _ (cellN_eq (hv p)))]
end ex
/-- Of elements that their cells tell: one cell; several. -/
theorem Y_load_n {x : Operand} {t : TypeId} {b o j q : Nat} {u : α} {v : Value} {f : α → List Value} [hf : RepF R f] [ht : TyAgg P t false] (hx : ev E x = some (.pointer (some ⟨b, o + j * R.sz + q, none⟩))) (hk : SlN L R (some ⟨b, o, none⟩) c xs) (hu : xs[j]? = some u) (hv : cellN (f u) q = some v) : Yl P E L (.load t x) ty v := fun n D W a w dst pos af gd ha hs => by
  obtain ⟨l, hl, hs1, hc⟩ := elem_n hk hu hs
  obtain ⟨M, k, _, _, _, h1, h2, _, _, _, hi, _⟩ := hs1.ex
  rw [hf.e _ _ _ hi] at hc
  simp only [execOp, ha.ev hx, Instr.loadAt, Instr.sureAddr, Sem.run_bind, Sem.run_pure, Result.andThen_ok, run_loadVar_one (hc q _ (cellN_eq hv))]
theorem SlN.take (h : SlN L R A c xs) (j : Nat) : SlN L R A c (xs.take j) := fun M k N hd hs hM hk => by
  obtain ⟨a, b, e⟩ := h M k N hd hs hM hk
  refine ⟨by rw [List.length_take]; omega, by rw [List.length_take]; omega, ?_⟩
  rcases e with e | ⟨b, o, e, cs, t, fr, hb, hall⟩
  · left; simp [e]
  · right
    refine ⟨b, o, e, cs, t, fr, hb, fun i x hi => hall i x ?_⟩
    rw [List.getElem?_take] at hi
    split at hi
    · exact hi
    · cases hi
theorem SlN.cut (h : SlN L R A c xs) (i j cap : Nat) (hij : i ≤ j) (hj : j ≤ xs.length) (hcap : j ≤ cap) : SlN L R (cutA A i cap R.sz) (cap - i) ((xs.take j).drop i) := fun M k N hd hs hM hk => by
  obtain ⟨a, b, e⟩ := h M k N hd hs hM hk
  have hlen : ((xs.take j).drop i).length = j - i := by simp; omega
  refine ⟨by rw [hlen]; omega, by rw [hlen]; omega, ?_⟩
  by_cases hij' : i = j
  · left; apply List.eq_nil_of_length_eq_zero; omega
  · rcases e with e | ⟨b, o, rfl, cs, t, fr, hb, hall⟩
    · subst e; left; simp
    · right
      refine ⟨b, o + i * R.sz, ?_, cs, t, fr, hb, fun k x hk => ?_⟩
      · unfold cutA; rw [if_neg (by omega)]; simp [Addr.add_plain]
      · rw [List.getElem?_drop, List.getElem?_take] at hk
        split at hk
        · obtain ⟨l, hl, hc⟩ := hall _ _ hk
          refine ⟨l, hl, fun q v hq => ?_⟩
          have := hc q v hq
          rwa [Nat.add_mul, ← Nat.add_assoc] at this
        · cases hk
theorem SlN.drop (h : SlN L R A c xs) {i : Nat} (hi : i ≤ xs.length) {W w : World} (hs : Sat W w L) : SlN L R (cutA A i c R.sz) (c - i) (xs.drop i) := by
  have h1 := h.len hs
  have := h.cut i xs.length c hi (Nat.le_refl _) h1.1
  rwa [List.take_length] at this
end
end Go.SL
set_option linter.unusedVariables false
set_option linter.unusedSimpArgs false
namespace Go.SL
open Go Go.Proofs
instance : DecidableEq OrderD := fun a b => decidable_of_iff (a.token = b.token ∧ a.cart = b.cart ∧ a.epoch = b.epoch ∧ a.cut = b.cut) (by cases a; cases b; simp)
instance : DecidableEq EntryD := fun a b => decidable_of_iff (a.noop = b.noop ∧ a.order = b.order) (by cases a; cases b; simp)
instance : DecidableEq VotedD := fun a b => decidable_of_iff (a.slot = b.slot ∧ a.bal = b.bal ∧ a.en = b.en) (by cases a; cases b; simp)
instance : DecidableEq EventD := fun a b => decidable_of_iff (a.dot = b.dot ∧ a.deps = b.deps ∧ a.cart = b.cart ∧ a.epoch = b.epoch ∧ a.sku = b.sku ∧ a.qty = b.qty ∧ a.clears = b.clears) (by cases a; cases b; simp)
theorem order_eq {a b : OrderD} : a = b ↔ a.token = b.token ∧ a.cart = b.cart ∧ a.epoch = b.epoch ∧ a.cut = b.cut := by cases a; cases b; simp
theorem entry_eq {a b : EntryD} : a = b ↔ a.noop = b.noop ∧ a.order = b.order := by cases a; cases b; simp
theorem take_step {xs ys : List Int} {i : Nat} {x y : Int} (h : xs.take i = ys.take i) (hx : xs[i]? = some x) (hy : ys[i]? = some y) (e : x = y) : xs.take (i + 1) = ys.take (i + 1) := by
  rw [List.take_add_one, List.take_add_one, h, hx, hy, e]
theorem take_all {α : Type} {xs ys : List α} {i : Nat} (h : xs.take i = ys.take i) (h1 : xs.length ≤ i) (h2 : ys.length ≤ i) : xs = ys := by
  rwa [List.take_of_length_le h1, List.take_of_length_le h2] at h
theorem sameVector_spec {L : List HP} {A B : Option Addr} {c d : Nat} {xs ys : List Int} (hk : SlN L (intR .i64) A c xs) (hk2 : SlN L (intR .i64) B d ys) : Fn Tryz.prog 91 #[.slice A xs.length c, .slice B ys.length d] L (fun v L' => v = .bool (decide (xs = ys)) ∧ L' = L) := by
  refine Fn_enter Tryz.func91 rfl rfl rfl rfl ?_
  refine hk.lens fun hl => ?_
  simp only [maxEl] at hl
  refine T_region ?_
  refine TL_y rfl rfl (Y_assign rfl) ?_
  refine TL_nil ?_
  refine T_seq ?_
  refine T_region ?_
  refine TL_y rfl rfl (Y_move rfl) ?_
  refine TL_y rfl rfl (Y_len rfl) ?_
  refine TL_y rfl rfl (Y_move rfl) ?_
  refine TL_y rfl rfl (Y_len rfl) ?_
  refine TL_y rfl rfl (Y_ne rfl rfl) ?_
  refine TL_nil ?_
  refine T_if rfl (fun h10 => ?_) (fun h10 => ?_)
  · refine T_region ?_
    refine TL_y rfl rfl (Y_assign rfl) ?_
    refine TL_nil ?_
    refine T_ret ?_
    refine thenS_ret ?_
    exact RetG_1 (.inl rfl) rfl (ResV.tmp rfl) GivesTo.g (⟨by rw [decide_eq_false]; rintro rfl; exact h10 rfl, rfl⟩)
  · refine T_skip ?_
    refine thenS_normal ?_
    refine T_seq ?_
    refine T_region ?_
    refine TL_y rfl rfl (Y_assign rfl) ?_
    refine TL_nil ?_
    refine T_block ?_
    refine T_loopK (σ := Nat) [0, 1] (fun i => i ≤ xs.length ∧ xs.take i = ys.take i) (fun i kv => (5, .int .i64 (i : Int)) :: kv) (fun i => L) (fun i => xs.length - i) (0) rfl (⟨Nat.zero_le _, rfl⟩) (GivesTo.g) (sub_cons rfl (sub_cons rfl (sub_cons rfl (sub_nil)))) ?_
    intro i hi
    refine T_seq ?_
    refine T_region ?_
    refine TL_y rfl rfl (Y_move rfl) ?_
    refine TL_y rfl rfl (Y_move rfl) ?_
    refine TL_y rfl rfl (Y_len rfl) ?_
    refine TL_y rfl rfl (Y_lt rfl rfl) ?_
    refine TL_nil ?_
    refine T_if rfl (fun h14 => ?_) (fun h14 => ?_)
    · refine T_skip ?_
      refine thenS_normal ?_
      refine T_seq ?_
      refine T_block ?_
      have hx := List.getElem?_eq_getElem (show i < xs.length by omega)
      have hy := List.getElem?_eq_getElem (show i < ys.length by omega)
      refine T_addr_n hk hx fun b1 o1 e1 => ?_
      refine T_addr_n hk2 hy fun b2 o2 e2 => ?_
      subst e1
      subst e2
      refine T_region_draw _ [0, 0, 3, 7, 0, 0, 48, 112, 255] [] [(0, true), (1, true), (2, true), (3, true), (4, true), (5, true), (6, true), (7, true), (8, true)] (by kernel_rfl) (by decide +kernel) (Gives.refl _) ?_
      refine TF_y rfl rfl (Y_move rfl) ?_
      refine TF_y rfl rfl (Y_move rfl) ?_
      refine TF_y rfl rfl (Y_index_n (R := intR .i64) (xs := xs) rfl rfl rfl hx) ?_
      refine TF_y rfl rfl (Y_load_n (q := 0) rfl hk hx rfl) ?_
      refine TF_y rfl rfl (Y_move rfl) ?_
      refine TF_y rfl rfl (Y_move rfl) ?_
      refine TF_y rfl rfl (Y_index_n (R := intR .i64) (xs := ys) rfl rfl rfl hy) ?_
      refine TF_y rfl rfl (Y_load_n (q := 0) rfl hk2 hy rfl) ?_
      refine TF_y rfl rfl (Y_ne rfl rfl) ?_
      refine TF_nil ?_
      refine T_if rfl (fun h25 => ?_) (fun h25 => ?_)
      · refine T_region ?_
        refine TL_y rfl rfl (Y_assign rfl) ?_
        refine TL_nil ?_
        refine T_ret ?_
        refine inB_ret ?_
        refine thenS_ret ?_
        refine thenS_ret ?_
        refine inB_ret ?_
        refine thenS_ret ?_
        exact RetG_1 (.inl rfl) rfl (ResV.tmp rfl) GivesTo.g (⟨by rw [decide_eq_false]; rintro rfl; exact h25 rfl, rfl⟩)
      · refine T_skip ?_
        refine inB_normal ?_
        refine thenS_normal ?_
        refine T_region_last ?_
        refine TL_y rfl rfl (Y_move rfl) ?_
        refine TL_y rfl rfl (Y_add rfl rfl (by omega)) ?_
        refine TL_name 16 (v' := .int .i64 ((i + 1 : Nat) : Int)) rfl (by simp) ?_
        refine TL_y rfl rfl (Y_assign rfl) ?_
        refine TL_nil ?_
        refine thenS_normal ?_
        exact ⟨i + 1, ⟨by omega, take_step hi.2 hx hy (Classical.not_not.1 h25)⟩, by omega, holds_to (sub_cons rfl (sub_cons rfl (sub_cons rfl (sub_nil)))) GivesTo.g⟩
    · refine T_exit ?_
      refine thenS_exit ?_
      refine thenS_exit ?_
      refine inB_hit ?_
      refine thenS_normal ?_
      refine T_region ?_
      refine TL_y rfl rfl (Y_assign rfl) ?_
      refine TL_nil ?_
      refine T_ret ?_
      exact RetG_1 (.inl rfl) rfl (ResV.tmp rfl) GivesTo.g (⟨by rw [decide_eq_true (take_all hi.2 (by omega) (by omega))], rfl⟩)
theorem sameSeal_spec {L : List HP} {A B : Option Addr} {c d : Nat} (a b : OrderD) (hk : SlN L (intR .i64) A c a.cut) (hk2 : SlN L (intR .i64) B d b.cut) : Fn Tryz.prog 61 #[.agg (List.toArray (orderC a (A, c))), .agg (List.toArray (orderC b (B, d)))] L (fun v L' => v = .bool (decide (a = b)) ∧ L' = L) := by
  refine Fn_enter Tryz.func61 rfl rfl rfl rfl ?_
  refine T_region ?_
  refine TL_box rfl rfl rfl ?_
  intro b2
  refine TL_box rfl rfl rfl ?_
  intro b3
  refine TL_y rfl rfl (Y_assign rfl) ?_
  refine TL_nil ?_
  refine T_region ?_
  refine TL_y rfl rfl (Y_field_addr rfl) ?_
  refine TL_y rfl rfl (Y_load rfl rfl) ?_
  refine TL_y rfl rfl (Y_field_addr rfl) ?_
  refine TL_y rfl rfl (Y_load rfl rfl) ?_
  refine TL_both 22 30 (a = b) ?_ ?_
  · refine TL_y rfl rfl (Y_str_eq rfl rfl) ?_
    refine TL_y rfl rfl (Y_move rfl) ?_
    refine TL_splitd 10 rfl (fun h10 => ?_) (fun h10 => ?_)
    · refine TL_grun rfl rfl ?_
      refine TL_y rfl rfl (Y_field_addr rfl) ?_
      refine TL_grun rfl rfl ?_
      refine TL_y rfl rfl (Y_load rfl rfl) ?_
      refine TL_grun rfl rfl ?_
      refine TL_y rfl rfl (Y_field_addr rfl) ?_
      refine TL_grun rfl rfl ?_
      refine TL_y rfl rfl (Y_load rfl rfl) ?_
      refine TL_grun rfl rfl ?_
      refine TL_y rfl rfl (Y_str_eq rfl rfl) ?_
      refine TL_y rfl rfl (Y_pick_t rfl rfl) ?_
      refine TL_y rfl rfl (Y_move rfl) ?_
      refine TL_splitd 17 rfl (fun h17 => ?_) (fun h17 => ?_)
      · refine TL_grun rfl rfl ?_
        refine TL_y rfl rfl (Y_field_addr rfl) ?_
        refine TL_grun rfl rfl ?_
        refine TL_y rfl rfl (Y_load rfl rfl) ?_
        refine TL_grun rfl rfl ?_
        refine TL_y rfl rfl (Y_field_addr rfl) ?_
        refine TL_grun rfl rfl ?_
        refine TL_y rfl rfl (Y_load rfl rfl) ?_
        refine TL_grun rfl rfl ?_
        refine TL_y rfl rfl (Y_eq rfl rfl) ?_
        refine TL_y rfl rfl (Y_pick_t rfl rfl) ?_
        refine TL_y rfl rfl (Y_move rfl) ?_
        refine TL_splitd 24 rfl (fun h24 => ?_) (fun h24 => ?_)
        · refine TL_grun rfl rfl ?_
          refine TL_y rfl rfl (Y_field_addr rfl) ?_
          refine TL_grun rfl rfl ?_
          refine TL_y rfl rfl (Y_load rfl rfl) ?_
          refine TL_grun rfl rfl ?_
          refine TL_y rfl rfl (Y_field_addr rfl) ?_
          refine TL_grun rfl rfl ?_
          refine TL_y rfl rfl (Y_load rfl rfl) ?_
          refine TL_grun rfl rfl ?_
          refine TL_call rfl rfl (sameVector_spec hk.tail.tail hk2.tail.tail) ?_
          rintro _ _ ⟨rfl, rfl⟩
          refine TL_y rfl rfl (Y_pick_t rfl rfl) ?_
          refine TL_chain_end rfl ?_ (by repeat (first | exact sub_refl | refine sub_ext rfl ?_)) GivesTo.g
          exact congrArg Value.bool (decide_eq_decide.2 (by simp [order_eq, *]))
        · refine TL_gskip rfl rfl rfl rfl ?_
          refine TL_gskip rfl rfl rfl rfl ?_
          refine TL_gskip rfl rfl rfl rfl ?_
          refine TL_gskip rfl rfl rfl rfl ?_
          refine TL_gskip rfl rfl rfl rfl ?_
          refine TL_y rfl rfl (Y_pick_f rfl rfl) ?_
          refine TL_chain_end rfl ?_ (by repeat (first | exact sub_refl | refine sub_ext rfl ?_)) GivesTo.g
          exact congrArg Value.bool (decide_eq_false (by simp [order_eq, *])).symm
      · refine TL_gskip rfl rfl rfl rfl ?_
        refine TL_gskip rfl rfl rfl rfl ?_
        refine TL_gskip rfl rfl rfl rfl ?_
        refine TL_gskip rfl rfl rfl rfl ?_
        refine TL_gskip rfl rfl rfl rfl ?_
        refine TL_y rfl rfl (Y_pick_f rfl rfl) ?_
        refine TL_y rfl rfl (Y_move rfl) ?_
        refine TL_gskip rfl rfl rfl rfl ?_
        refine TL_gskip rfl rfl rfl rfl ?_
        refine TL_gskip rfl rfl rfl rfl ?_
        refine TL_gskip rfl rfl rfl rfl ?_
        refine TL_gskip rfl rfl rfl rfl ?_
        refine TL_y rfl rfl (Y_pick_f rfl rfl) ?_
        refine TL_chain_end rfl ?_ (by repeat (first | exact sub_refl | refine sub_ext rfl ?_)) GivesTo.g
        exact congrArg Value.bool (decide_eq_false (by simp [order_eq, *])).symm
    · refine TL_gskip rfl rfl rfl rfl ?_
      refine TL_gskip rfl rfl rfl rfl ?_
      refine TL_gskip rfl rfl rfl rfl ?_
      refine TL_gskip rfl rfl rfl rfl ?_
      refine TL_gskip rfl rfl rfl rfl ?_
      refine TL_y rfl rfl (Y_pick_f rfl rfl) ?_
      refine TL_y rfl rfl (Y_move rfl) ?_
      refine TL_gskip rfl rfl rfl rfl ?_
      refine TL_gskip rfl rfl rfl rfl ?_
      refine TL_gskip rfl rfl rfl rfl ?_
      refine TL_gskip rfl rfl rfl rfl ?_
      refine TL_gskip rfl rfl rfl rfl ?_
      refine TL_y rfl rfl (Y_pick_f rfl rfl) ?_
      refine TL_y rfl rfl (Y_move rfl) ?_
      refine TL_gskip rfl rfl rfl rfl ?_
      refine TL_gskip rfl rfl rfl rfl ?_
      refine TL_gskip rfl rfl rfl rfl ?_
      refine TL_gskip rfl rfl rfl rfl ?_
      refine TL_gskip rfl rfl rfl rfl ?_
      refine TL_y rfl rfl (Y_pick_f rfl rfl) ?_
      refine TL_chain_end rfl ?_ (by repeat (first | exact sub_refl | refine sub_ext rfl ?_)) GivesTo.g
      exact congrArg Value.bool (decide_eq_false (by simp [order_eq, *])).symm
  refine TL_y rfl rfl (Y_assign rfl) ?_
  refine TL_nil ?_
  refine T_ret ?_
  exact RetG_1 (.inl rfl) rfl (ResV.tmp rfl) GivesTo.g (⟨rfl, rfl⟩)
theorem sameEntry_spec {L : List HP} {A B : Option Addr} {c d : Nat} (a b : EntryD) (hk : SlN L (intR .i64) A c a.order.cut) (hk2 : SlN L (intR .i64) B d b.order.cut) : Fn Tryz.prog 36 #[.agg (List.toArray (entryC a (A, c))), .agg (List.toArray (entryC b (B, d)))] L (fun v L' => v = .bool (decide (a = b)) ∧ L' = L) := by
  refine Fn_enter Tryz.func36 rfl rfl rfl rfl ?_
  refine T_region ?_
  refine TL_box rfl rfl rfl ?_
  intro b2
  refine TL_box rfl rfl rfl ?_
  intro b3
  refine TL_y rfl rfl (Y_assign rfl) ?_
  refine TL_nil ?_
  refine T_region ?_
  refine TL_y rfl rfl (Y_field_addr rfl) ?_
  refine TL_y rfl rfl (Y_load rfl rfl) ?_
  refine TL_y rfl rfl (Y_field_addr rfl) ?_
  refine TL_y rfl rfl (Y_load rfl rfl) ?_
  refine TL_y rfl rfl (Y_equal rfl rfl (EqIs.bool)) ?_
  refine TL_name 9 (v' := .bool (decide (a.noop = b.noop))) rfl (congrArg Value.bool (by cases a.noop <;> cases b.noop <;> rfl)) ?_
  refine TL_both 7 16 (a = b) ?_ ?_
  · refine TL_y rfl rfl (Y_move rfl) ?_
    refine TL_splitd 10 rfl (fun h10 => ?_) (fun h10 => ?_)
    · refine TL_grun rfl rfl ?_
      refine TL_y rfl rfl (Y_field_addr rfl) ?_
      refine TL_grun rfl rfl ?_
      refine TL_y rfl rfl (Y_load_agg rfl rfl) ?_
      refine TL_grun rfl rfl ?_
      refine TL_y rfl rfl (Y_field_addr rfl) ?_
      refine TL_grun rfl rfl ?_
      refine TL_y rfl rfl (Y_load_agg rfl rfl) ?_
      refine TL_grun rfl rfl ?_
      refine TL_call rfl rfl (sameSeal_spec a.order b.order hk.tail.tail hk2.tail.tail) ?_
      rintro _ _ ⟨rfl, rfl⟩
      refine TL_y rfl rfl (Y_pick_t rfl rfl) ?_
      refine TL_chain_end rfl ?_ (by repeat (first | exact sub_refl | refine sub_ext rfl ?_)) GivesTo.g
      exact congrArg Value.bool (decide_eq_decide.2 (by simp [entry_eq, *]))
    · refine TL_gskip rfl rfl rfl rfl ?_
      refine TL_gskip rfl rfl rfl rfl ?_
      refine TL_gskip rfl rfl rfl rfl ?_
      refine TL_gskip rfl rfl rfl rfl ?_
      refine TL_gskip rfl rfl rfl rfl ?_
      refine TL_y rfl rfl (Y_pick_f rfl rfl) ?_
      refine TL_chain_end rfl ?_ (by repeat (first | exact sub_refl | refine sub_ext rfl ?_)) GivesTo.g
      exact congrArg Value.bool (decide_eq_false (by simp [entry_eq, *])).symm
  refine TL_y rfl rfl (Y_assign rfl) ?_
  refine TL_nil ?_
  refine T_ret ?_
  exact RetG_1 (.inl rfl) rfl (ResV.tmp rfl) GivesTo.g (⟨rfl, rfl⟩)
end Go.SL
set_option linter.unusedVariables false
set_option linter.unusedSimpArgs false
namespace Go.SL
open Go Go.Proofs
abbrev pairV (a : Int × Int) : Value := .agg (List.toArray [.int .i64 a.1, .int .i64 a.2])
theorem ballot_guard : Tryz.prog.eqGuardType Tryz.prog.depth 36 = false := by kernel_rfl
theorem ballot_held : Tryz.prog.stoodInHeld 36 = false := by kernel_rfl
theorem ballot_eq (dd : Nat) (w : World) (a b : Int × Int) : (Op.equalIn (dd + 2) 36 (pairV a) (pairV b)).run Tryz.prog w = .ok (decide (a = b)) w := by
  have hn : ∀ x y, (Op.equalIn (dd + 1) 3 (.int .i64 x) (.int .i64 y)).run Tryz.prog w = .ok (decide (x = y)) w := fun x y => EqIs.int (k := .i64) dd w
  generalize hdd : dd + 1 = d1 at hn
  have : dd + 2 = d1 + 1 := by omega
  rw [this]
  simp [Op.equalIn, Tryz.runUnderlying36, ballot_held, part, Tryz.isAgg3, hn]
  by_cases h1 : a.1 = b.1 <;> by_cases h2 : a.2 = b.2 <;> simp [h1, h2, Prod.ext_iff]
section
variable {E : Env} {L : List HP} {ty : TypeId}
theorem ballot_eq' (w : World) (a b : Int × Int) : (Op.equal 36 (pairV a) (pairV b)).run Tryz.prog w = .ok (decide (a = b)) w := ballot_eq 9998 w a b
theorem Y_ne_ballot {x y : Operand} {t' : TypeId} {a b : Int × Int} (hx : ev E x = some (pairV a)) (hy : ev E y = some (pairV b)) : Yl Tryz.prog E L (.binOp .neq 36 x y t') ty (.bool (decide (a ≠ b))) := fun n D W ac w dst pos af g hv hs => by
  have h3 : ∀ xs ys : Array Value, Go.binOp .neq 36 (.agg xs) (.agg ys) = (do Pure.pure (Value.bool (!(← Op.equal 36 (.agg xs) (.agg ys)))) : Sem Value) := fun xs ys => by simp only [Go.binOp]
  simp only [execOp, hv.ev hx, hv.ev hy, eqGuard, h3]
  simp [ballot_guard, ballot_eq']
end
section
variable {E : Env} {L : List HP} {ty : TypeId}
end
end Go.SL
set_option linter.unusedVariables false
set_option linter.unusedSimpArgs false
namespace Go.SL
open Go Go.Proofs
theorem voted_eq {a b : VotedD} : a = b ↔ a.slot = b.slot ∧ a.bal = b.bal ∧ a.en = b.en := by cases a; cases b; simp
theorem msg_eq {a b : MsgD} : a = b ↔ a.kind = b.kind ∧ a.frm = b.frm ∧ a.to_ = b.to_ ∧ a.bal = b.bal ∧ a.slot = b.slot ∧ a.en = b.en ∧ a.voted = b.voted ∧ a.seen = b.seen ∧ a.events = b.events ∧ a.time = b.time := by cases a; cases b; simp
instance : DecidableEq MsgD := fun a b => decidable_of_iff _ msg_eq.symm
theorem sameVoted_spec {L : List HP} {A B : Option Addr} {c d : Nat} {xs ys : List VotedD} (hk : SlK L votedR A c xs) (hk2 : SlK L votedR B d ys) : Fn Tryz.prog 19 #[.slice A xs.length c, .slice B ys.length d] L (fun v L' => v = .bool (decide (xs = ys)) ∧ L' = L) := by
  refine Fn_enter Tryz.func19 rfl rfl rfl rfl ?_
  refine hk.lens fun hl => ?_
  simp only [maxEl] at hl
  refine T_region ?_
  refine TL_y rfl rfl (Y_assign rfl) ?_
  refine TL_nil ?_
  refine T_seq ?_
  refine T_region ?_
  refine TL_y rfl rfl (Y_move rfl) ?_
  refine TL_y rfl rfl (Y_len rfl) ?_
  refine TL_y rfl rfl (Y_move rfl) ?_
  refine TL_y rfl rfl (Y_len rfl) ?_
  refine TL_y rfl rfl (Y_ne rfl rfl) ?_
  refine TL_nil ?_
  refine T_if rfl (fun h10 => ?_) (fun h10 => ?_)
  · refine T_region ?_
    refine TL_y rfl rfl (Y_assign rfl) ?_
    refine TL_nil ?_
    refine T_ret ?_
    refine thenS_ret ?_
    exact RetG_1 (.inl rfl) rfl (ResV.tmp rfl) GivesTo.g (⟨by rw [decide_eq_false]; rintro rfl; exact h10 rfl, rfl⟩)
  · refine T_skip ?_
    refine thenS_normal ?_
    refine T_seq ?_
    refine T_region ?_
    refine TL_y rfl rfl (Y_assign rfl) ?_
    refine TL_nil ?_
    refine T_block ?_
    refine T_loopK (σ := Nat) [0, 1] (fun i => i ≤ xs.length ∧ xs.take i = ys.take i) (fun i kv => (5, .int .i64 (i : Int)) :: kv) (fun i => L) (fun i => xs.length - i) (0) rfl (⟨Nat.zero_le _, rfl⟩) (GivesTo.g) (sub_cons rfl (sub_cons rfl (sub_cons rfl (sub_nil)))) ?_
    intro i hi
    refine T_seq ?_
    refine T_region ?_
    refine TL_y rfl rfl (Y_move rfl) ?_
    refine TL_y rfl rfl (Y_move rfl) ?_
    refine TL_y rfl rfl (Y_len rfl) ?_
    refine TL_y rfl rfl (Y_lt rfl rfl) ?_
    refine TL_nil ?_
    refine T_if rfl (fun h14 => ?_) (fun h14 => ?_)
    · refine T_skip ?_
      refine thenS_normal ?_
      refine T_seq ?_
      refine T_block ?_
      obtain ⟨x, hx⟩ : ∃ x, xs[i]? = some x := ⟨_, List.getElem?_eq_getElem (by omega)⟩
      obtain ⟨y, hy⟩ : ∃ y, ys[i]? = some y := ⟨_, List.getElem?_eq_getElem (by omega)⟩
      refine T_at hk hx fun b1 o1 l1 ha1 => ?_
      refine T_ex fun p1 ok1 => ?_
      simp only [List.cons_append, List.nil_append]
      refine T_at hk2.tail.tail hy fun b2 o2 l2 ha2 => ?_
      refine T_ex fun p2 ok2 => ?_
      simp only [List.cons_append, List.nil_append]
      refine T_region_draw _ [0, 0, 3, 7, 15, 0, 0, 96, 224, 480, 1023, 2047, 4095, 4095, 16383, 32767, 65535, 4095, 4095, 397311, 921599, 1970175, 4194303, 8388607, 16777215, 33554431, 33554431, 134217727, 268435455, 536870911, 33554431, 33554431, 3254779903, 7549747199, 16139681791, 34359738367, 68719476735, 137438953471] [] [(0, true), (1, true), (2, true), (3, true), (4, true), (5, true), (6, true), (7, true), (8, true), (9, true), (10, true), (11, true), (12, true), (13, true), (14, true), (15, true), (16, true), (17, true), (18, true), (19, true), (20, true), (21, true), (22, true), (23, true), (24, true), (25, true), (26, true), (27, true), (28, true), (29, true), (30, true), (31, true), (32, true), (33, true), (34, true), (35, false), (36, true), (37, true)] (by kernel_rfl) (by decide +kernel) (Gives.refl _) ?_
      refine TF_y rfl rfl (Y_move rfl) ?_
      refine TF_y rfl rfl (Y_move rfl) ?_
      refine TF_y rfl rfl (Y_index_at rfl rfl (by omega) ha1) ?_
      refine TF_y rfl rfl (Y_field_addr2 rfl) ?_
      refine TF_y rfl rfl (Y_load_row rfl rfl) ?_
      refine TF_y rfl rfl (Y_move rfl) ?_
      refine TF_y rfl rfl (Y_move rfl) ?_
      refine TF_y rfl rfl (Y_index_at rfl rfl (by omega) ha2) ?_
      refine TF_y rfl rfl (Y_field_addr2 rfl) ?_
      refine TF_y rfl rfl (Y_load_row rfl rfl) ?_
      refine TF_y rfl rfl (Y_ne rfl rfl) ?_
      refine TF_y rfl rfl (Y_move rfl) ?_
      refine TF_splitd 28 rfl (fun h28 => ?_) (fun h28 => ?_)
      · refine TF_gskip rfl rfl rfl rfl rfl ?_
        refine TF_gskip rfl rfl rfl rfl rfl ?_
        refine TF_gskip rfl rfl rfl rfl rfl ?_
        refine TF_gskip rfl rfl rfl rfl rfl ?_
        refine TF_gskip rfl rfl rfl rfl rfl ?_
        refine TF_gskip rfl rfl rfl rfl rfl ?_
        refine TF_gskip rfl rfl rfl rfl rfl ?_
        refine TF_gskip rfl rfl rfl rfl rfl ?_
        refine TF_gskip rfl rfl rfl rfl rfl ?_
        refine TF_gskip rfl rfl rfl rfl rfl ?_
        refine TF_gskip rfl rfl rfl rfl rfl ?_
        refine TF_y rfl rfl (Y_pick_t rfl rfl) ?_
        refine TF_y rfl rfl (Y_move rfl) ?_
        refine TF_gskip rfl rfl rfl rfl rfl ?_
        refine TF_gskip rfl rfl rfl rfl rfl ?_
        refine TF_gskip rfl rfl rfl rfl rfl ?_
        refine TF_gskip rfl rfl rfl rfl rfl ?_
        refine TF_gskip rfl rfl rfl rfl rfl ?_
        refine TF_gskip rfl rfl rfl rfl rfl ?_
        refine TF_gskip rfl rfl rfl rfl rfl ?_
        refine TF_gskip rfl rfl rfl rfl rfl ?_
        refine TF_gskip rfl rfl rfl rfl rfl ?_
        refine TF_gskip rfl rfl rfl rfl rfl ?_
        refine TF_anchor rfl ?_
        refine TL_gskip rfl rfl rfl rfl ?_
        refine TF_end GivesTo.g ?_
        refine TF_gskip rfl rfl rfl rfl rfl ?_
        refine TF_y rfl rfl (Y_pick_t rfl rfl) ?_
        refine TF_nil ?_
        refine T_cond_true rfl ?_
        refine T_region ?_
        refine TL_y rfl rfl (Y_assign rfl) ?_
        refine TL_nil ?_
        refine T_ret ?_
        refine inB_ret ?_
        refine thenS_ret ?_
        refine thenS_ret ?_
        refine inB_ret ?_
        refine thenS_ret ?_
        exact RetG_1 (.inl rfl) rfl (ResV.tmp rfl) GivesTo.g (⟨by rw [decide_eq_false]; rintro rfl; rw [hx] at hy; cases hy; exact h28 rfl, rfl⟩)
      · refine TF_gy rfl rfl rfl rfl (Y_move rfl) ?_
        refine TF_gy rfl rfl rfl rfl (Y_move rfl) ?_
        refine TF_gy rfl rfl rfl rfl (Y_index_at rfl rfl (by omega) ha1) ?_
        refine TF_gy rfl rfl rfl rfl (Y_field_addr2 rfl) ?_
        refine TF_gy rfl rfl rfl rfl (Y_load_row_agg (vs := [.int .i64 x.bal.1, .int .i64 x.bal.2]) rfl rfl) ?_
        refine TF_gy rfl rfl rfl rfl (Y_move rfl) ?_
        refine TF_gy rfl rfl rfl rfl (Y_move rfl) ?_
        refine TF_gy rfl rfl rfl rfl (Y_index_at rfl rfl (by omega) ha2) ?_
        refine TF_gy rfl rfl rfl rfl (Y_field_addr2 rfl) ?_
        refine TF_gy rfl rfl rfl rfl (Y_load_row_agg (vs := [.int .i64 y.bal.1, .int .i64 y.bal.2]) rfl rfl) ?_
        refine TF_gy rfl rfl rfl rfl (Y_ne_ballot (a := x.bal) (b := y.bal) rfl rfl) ?_
        refine TF_y rfl rfl (Y_pick_f rfl rfl) ?_
        refine TF_y rfl rfl (Y_move rfl) ?_
        refine TF_splitd 41 rfl (fun h41 => ?_) (fun h41 => ?_)
        · refine TF_gskip rfl rfl rfl rfl rfl ?_
          refine TF_gskip rfl rfl rfl rfl rfl ?_
          refine TF_gskip rfl rfl rfl rfl rfl ?_
          refine TF_gskip rfl rfl rfl rfl rfl ?_
          refine TF_gskip rfl rfl rfl rfl rfl ?_
          refine TF_gskip rfl rfl rfl rfl rfl ?_
          refine TF_gskip rfl rfl rfl rfl rfl ?_
          refine TF_gskip rfl rfl rfl rfl rfl ?_
          refine TF_gskip rfl rfl rfl rfl rfl ?_
          refine TF_gskip rfl rfl rfl rfl rfl ?_
          refine TF_anchor rfl ?_
          refine TL_gskip rfl rfl rfl rfl ?_
          refine TF_end GivesTo.g ?_
          refine TF_gskip rfl rfl rfl rfl rfl ?_
          refine TF_y rfl rfl (Y_pick_t rfl rfl) ?_
          refine TF_nil ?_
          refine T_cond_true rfl ?_
          refine T_region ?_
          refine TL_y rfl rfl (Y_assign rfl) ?_
          refine TL_nil ?_
          refine T_ret ?_
          refine inB_ret ?_
          refine thenS_ret ?_
          refine thenS_ret ?_
          refine inB_ret ?_
          refine thenS_ret ?_
          exact RetG_1 (.inl rfl) rfl (ResV.tmp rfl) GivesTo.g (⟨by rw [decide_eq_false]; rintro rfl; rw [hx] at hy; cases hy; exact h41 rfl, rfl⟩)
        · refine TF_gy rfl rfl rfl rfl (Y_move rfl) ?_
          refine TF_gy rfl rfl rfl rfl (Y_move rfl) ?_
          refine TF_gy rfl rfl rfl rfl (Y_index_at rfl rfl (by omega) ha1) ?_
          refine TF_gy rfl rfl rfl rfl (Y_field_addr2 rfl) ?_
          refine TF_gy rfl rfl rfl rfl (Y_load_row_agg (vs := entryC x.en p1) rfl rfl) ?_
          refine TF_gy rfl rfl rfl rfl (Y_move rfl) ?_
          refine TF_gy rfl rfl rfl rfl (Y_move rfl) ?_
          refine TF_gy rfl rfl rfl rfl (Y_index_at rfl rfl (by omega) ha2) ?_
          refine TF_gy rfl rfl rfl rfl (Y_field_addr2 rfl) ?_
          refine TF_gy rfl rfl rfl rfl (Y_load_row_agg (vs := entryC y.en p2) rfl rfl) ?_
          refine TF_anchor rfl ?_
          refine TL_grun rfl rfl ?_
          refine TL_call rfl rfl (sameEntry_spec x.en y.en sln sln) ?_
          rintro _ _ ⟨rfl, rfl⟩
          refine TF_end GivesTo.g ?_
          refine TF_gy rfl rfl rfl rfl (Y_not_d rfl) ?_
          refine TF_y rfl rfl (Y_pick_f rfl rfl) ?_
          refine TF_nil ?_
          refine T_if rfl (fun h54 => ?_) (fun h54 => ?_)
          · refine T_region ?_
            refine TL_y rfl rfl (Y_assign rfl) ?_
            refine TL_nil ?_
            refine T_ret ?_
            refine inB_ret ?_
            refine thenS_ret ?_
            refine thenS_ret ?_
            refine inB_ret ?_
            refine thenS_ret ?_
            exact RetG_1 (.inl rfl) rfl (ResV.tmp rfl) GivesTo.g (⟨by rw [decide_eq_false]; rintro rfl; rw [hx] at hy; cases hy; exact h54 rfl, rfl⟩)
          · refine T_skip ?_
            refine inB_normal ?_
            refine thenS_normal ?_
            refine T_region_last ?_
            refine TL_y rfl rfl (Y_move rfl) ?_
            refine TL_y rfl rfl (Y_add rfl rfl (by omega)) ?_
            refine TL_name 16 (v' := .int .i64 ((i + 1 : Nat) : Int)) rfl (by simp) ?_
            refine TL_y rfl rfl (Y_assign rfl) ?_
            refine TL_nil ?_
            refine thenS_normal ?_
            exact ⟨i + 1, ⟨by omega, by rw [List.take_add_one, List.take_add_one, hi.2, hx, hy, show x = y from voted_eq.2 ⟨Classical.not_not.1 h28, Classical.not_not.1 h41, Classical.not_not.1 h54⟩]⟩, by omega, holds_to (sub_cons rfl (sub_cons rfl (sub_cons rfl (sub_nil)))) GivesTo.g⟩
    · refine T_exit ?_
      refine thenS_exit ?_
      refine thenS_exit ?_
      refine inB_hit ?_
      refine thenS_normal ?_
      refine T_region ?_
      refine TL_y rfl rfl (Y_assign rfl) ?_
      refine TL_nil ?_
      refine T_ret ?_
      exact RetG_1 (.inl rfl) rfl (ResV.tmp rfl) GivesTo.g (⟨by rw [decide_eq_true (take_all hi.2 (by omega) (by omega))], rfl⟩)
end Go.SL
set_option linter.unusedVariables false
set_option linter.unusedSimpArgs false
namespace Go.SL
open Go Go.RowKit Go.ChangeShapes Go.WideShapes

theorem list_of {α : Type} {p : Nat → α → Prop} : ∀ (n : Nat), (∀ i, i < n → ∃ a, p i a) → ∃ xs : List α, xs.length = n ∧ ∀ i a, xs[i]? = some a → p i a
  | 0, _ => ⟨[], rfl, fun i a h => by simp at h⟩
  | n + 1, h => by
    obtain ⟨xs, h1, h2⟩ := list_of n (fun i hi => h i (by omega))
    obtain ⟨a, ha⟩ := h n (by omega)
    refine ⟨xs ++ [a], by simp [h1], fun i b hb => ?_⟩
    by_cases hi : i < xs.length
    · rw [List.getElem?_append_left hi] at hb; exact h2 i b hb
    · rw [List.getElem?_append_right (by omega)] at hb
      have : i = n := by
        have := (List.getElem?_eq_some_iff.1 hb).1
        simp at this; omega
      subst this
      rw [h1] at hb
      simp at hb
      subst hb; exact ha
theorem mapM_at {α β : Type} {f : α → Option β} : ∀ {l : List α} {r : List β}, l.mapM f = some r → r.length = l.length ∧ ∀ (i : Nat) (x : α), l[i]? = some x → f x = r[i]?
  | [], r, h => by simp at h; subst h; simp
  | x :: l, r, h => by
    simp only [List.mapM_cons] at h
    cases e : f x with
    | none => rw [e] at h; cases h
    | some y =>
      rw [e] at h
      cases e2 : l.mapM f with
      | none => rw [e2] at h; cases h
      | some r' =>
        rw [e2] at h
        cases h
        obtain ⟨h1, h2⟩ := mapM_at e2
        refine ⟨by simp [h1], fun i z hz => ?_⟩
        cases i with
        | zero => simp at hz; subst hz; simpa using e
        | succ i => simpa using h2 i z (by simpa using hz)

/-- A way to count what is read: each value, each letter. -/
structure Bulk (H : Type) where
  f : DataW H → Nat
  one : ∀ d, 1 ≤ f d
  str : ∀ b, b.length + 1 ≤ f (.lit (.string b))
  slice : ∀ e s, (e.map f).sum + 1 ≤ f (.slice e s)
  agg : ∀ ps, (ps.map f).sum + 1 ≤ f (.agg ps)
  ptr : ∀ d, f d + 1 ≤ f (.ptr d)
/-- What is read of type t, of whatever world, is laid as R tells, and bears φ; μ counts it. -/
def Reads {α : Type} (P : Program) (t : TypeId) (R : Rep α) (φ : α → Prop) (μ : α → Nat) : Prop :=
  ∀ (H : Type) (enc : TypeId × Value → H) (W : World) (held : Bool) (fuel : Nat) (cs : List Value) (d : DataW H) (ps : List MemPlace), DataW.trod enc P W 0 (fun _ => true) held fuel t cs = some (d, ps) → (∀ n ∈ d.weights P t, n ≤ reachBytes) →
    ∃ a, R.rep (heapOf W) a cs ∧ φ a ∧ ∀ B : Bulk H, μ a ≤ B.f d
theorem reach_eq : reachBytes = 140737488351232 := rfl
section
variable {P : Program} {t e : TypeId}
theorem wf_in {k : IntKind} {n : Int} (h : (Lit.int k n).wf = true) : intIn k n := by
  simp only [Lit.wf, Bool.and_eq_true, decide_eq_true_eq] at h
  exact h
theorem reads_str (ht : P.underlying t = some .string) : Reads P t strR (fun s => s.size ≤ 140737488351232) (fun s => s.size + 1) := fun H enc W held fuel cs d ps h hw => by
  obtain ⟨s, rfl, hx, hs⟩ := DataW.trod_string ht h
  cases hx
  have := hw s.data.toList.length (by simp [DataW.weights])
  rw [reach_eq] at this
  have hsz : s.size = s.data.toList.length := Lib.size_eq s
  exact ⟨s, ⟨rfl, by rw [hsz]; simp only [maxEl]; omega⟩, by show s.size ≤ _; rw [hsz]; exact this, fun B => by show s.size + 1 ≤ _; rw [hsz]; exact B.str _⟩
/-- A slice, of whatever address. -/
def sliceR {α : Type} (R : Rep α) : Rep (List α) := ⟨1, fun M xs cs => ∃ A c, cs = [.slice A xs.length c] ∧ sliceAt M R A c xs, fun hM ⟨A, c, e, h⟩ => ⟨A, c, e, h.mono hM⟩, fun ⟨A, c, e, h⟩ => by rw [e]; rfl, fun ⟨A, c, e, h⟩ v hv => by rw [e] at hv; simp at hv; subst hv; rfl⟩
theorem weightsAll_mem {H : Type} {d : DataW H} {n : Nat} : ∀ {l : List (DataW H)}, d ∈ l → n ∈ d.weights P e → n ∈ DataW.weightsAll P e l
  | x :: l, hd, hn => by
    simp only [DataW.weightsAll, List.mem_append]
    rcases List.mem_cons.1 hd with rfl | hd
    · exact .inl hn
    · exact .inr (weightsAll_mem hd hn)
  | [], hd, _ => by cases hd
theorem sum_le_sum {α β : Type} {f : α → Nat} {g : β → Nat} : ∀ {xs : List α} {ys : List β}, xs.length = ys.length → (∀ (i : Nat) (x : α) (y : β), xs[i]? = some x → ys[i]? = some y → f x ≤ g y) → (xs.map f).sum ≤ (ys.map g).sum
  | [], [], _, _ => by simp
  | x :: xs, y :: ys, hl, h => by
    have h0 := h 0 x y rfl rfl
    have ih := sum_le_sum (xs := xs) (ys := ys) (by simpa using hl) (fun i a b ha hb => h (i + 1) a b (by simpa using ha) (by simpa using hb))
    simp only [List.map_cons, List.sum_cons]
    omega
  | [], _ :: _, hl, _ => by simp at hl
  | _ :: _, [], hl, _ => by simp at hl
theorem reads_slice {α : Type} {R : Rep α} {φ : α → Prop} {μ : α → Nat} (ht : P.underlying t = some (.slice e)) (hsz : P.cellsOf e = R.sz) (h0 : 0 < R.sz) (hb : 0 < P.bytesOf e) (he : Reads P e R φ μ) : Reads P t (sliceR R) (fun xs => xs.length * P.bytesOf e ≤ 140737488351232 ∧ ∀ x ∈ xs, φ x) (fun xs => (xs.map μ).sum + 1) := fun H enc W held fuel cs d ps h hw => by
  rcases DataW.trod_slice ht h with ⟨rfl, hx⟩ | ⟨a, len, cap, elems, rest, n, rfl, rfl, hx, _, hl, hm, hlen, hel, hsp, _⟩
  · exact ⟨[], ⟨none, 0, rfl, sliceAt.nil _ _ _ _⟩, ⟨by simp, fun x hx => by cases hx⟩, fun B => B.one d⟩
  · cases hx
    have hwt : ∀ n ∈ ((elems.map (·.1)).length + (rest.map (·.1)).length) * P.bytesOf e :: (DataW.weightsAll P e (elems.map (·.1)) ++ DataW.weightsAll P e (rest.map (·.1))), n ≤ reachBytes := by
      intro n hn; exact hw n (by simpa [DataW.weights, ht] using hn)
    have hbound : len * P.bytesOf e ≤ 140737488351232 := by
      have := hwt _ (List.mem_cons_self)
      rw [reach_eq] at this
      simp only [List.length_map, hlen] at this
      exact Nat.le_trans (Nat.mul_le_mul_right _ (by omega)) this
    have hle : len ≤ 140737488351232 := Nat.le_trans (Nat.le_mul_of_pos_right _ hb) hbound
    have hall : ∀ i, i < len → ∃ x : α, ((∃ l, R.rep (heapOf W) x l ∧ ∀ j v, l[j]? = some v → W.cell? ((a.add (i * R.sz)).add j) = some v) ∧ φ x) ∧ ∀ y, elems[i]? = some y → ∀ B : Bulk H, μ x ≤ B.f y.1 := by
      intro i hi
      have h1 := hel i hi
      rw [hsz, List.getElem?_eq_getElem (by omega)] at h1
      cases hc : World.cells? W 0 (a.add (i * R.sz)) R.sz with
      | none => rw [hc] at h1; cases h1
      | some cs' =>
        rw [hc] at h1
        simp only [Option.bind_some] at h1
        obtain ⟨x, hx1, hx2, hx3⟩ := he H enc W held n cs' (elems[i]'(by omega)).1 (elems[i]'(by omega)).2 h1 (fun k hk => hwt k (List.mem_cons_of_mem _ (List.mem_append_left _ (weightsAll_mem (List.mem_map.2 ⟨_, List.getElem_mem (by omega), rfl⟩) hk))))
        refine ⟨x, ⟨⟨cs', hx1, fun j v hj => ?_⟩, hx2⟩, fun y hy B => by rw [List.getElem?_eq_getElem (by omega)] at hy; cases hy; exact hx3 B⟩
        simp only [World.cells?, Nat.zero_le, if_true] at hc
        obtain ⟨g1, g2⟩ := mapM_at hc
        have hjl := (List.getElem?_eq_some_iff.1 hj).1
        have := g2 j j (by rw [List.getElem?_range (by simpa [g1] using hjl)])
        rw [this, hj]
    obtain ⟨xs, hxl, hxs⟩ := list_of len hall
    subst hxl
    refine ⟨xs, ⟨some a, cap, rfl, hl, by simp only [maxEl]; omega, ?_⟩, ⟨hbound, fun x hx => let ⟨i, hi⟩ := List.getElem?_of_mem hx; (hxs i x hi).1.2⟩, fun B => ?_⟩
    · cases xs with
      | nil => exact .inl rfl
      | cons x0 xs =>
        right
        obtain ⟨⟨⟨l0, hr0, hc0⟩, _⟩, _⟩ := hxs 0 x0 rfl
        have hl0 := R.len hr0
        obtain ⟨v0, hv0⟩ : ∃ v, l0[0]? = some v := ⟨_, List.getElem?_eq_getElem (by omega)⟩
        have h00 := hc0 0 v0 hv0
        obtain ⟨b, off, spot⟩ := a
        have hspot : spot = none := by simpa [Addr.add] using World.cell?_spot h00
        subst hspot
        obtain ⟨c, t', fr, hblk⟩ : ∃ c t' fr, W.heap[b]? = some (.cells c t' fr) := by
          simp only [World.cell?, Addr.add_plain] at h00
          split at h00
          · exact ⟨_, _, _, by assumption⟩
          · cases h00
        refine ⟨b, off, rfl, c, t', fr, hblk, fun i x hi => ?_⟩
        obtain ⟨⟨⟨l, hr, hc⟩, _⟩, _⟩ := hxs i x hi
        refine ⟨l, hr, fun j v hj => ?_⟩
        have := hc j v hj
        rw [Addr.add_plain, Addr.add_plain, cell_of hblk] at this
        exact this
    · refine Nat.le_trans ?_ (B.slice _ _)
      have := sum_le_sum (f := μ) (g := fun y : DataW H × List MemPlace => B.f y.1) (xs := xs) (ys := elems) hlen.symm (fun i x y hx hy => (hxs i x hx).2 y hy B)
      simp only [List.map_map]
      show (xs.map μ).sum + 1 ≤ _
      have e2 : (B.f ∘ fun x : DataW H × List MemPlace => x.1) = fun y => B.f y.1 := rfl
      rw [e2]
      omega
/-- One argument. -/
theorem arg_reads {α : Type} {R : Rep α} {φ : α → Prop} {μ : α → Nat} (hr : Reads P t R φ μ) {H : Type} {enc : TypeId × Value → H} {W : World} {v : Value} {d : DataW H} {ps : List MemPlace} (h : DataW.Trod enc P W 0 (fun _ => true) true t v d ps) (hw : ∀ n ∈ d.weights P t, n ≤ reachBytes) : ∃ a, R.rep (heapOf W) a v.cells.toList ∧ φ a ∧ ∀ B : Bulk H, μ a ≤ B.f d :=
  let ⟨fuel, h⟩ := h
  hr H enc W true fuel _ d ps h hw
theorem arg_slice {α : Type} {R : Rep α} {φ : List α → Prop} {μ : List α → Nat} (ht : P.underlying t = some (.slice e)) (hr : Reads P t (sliceR R) φ μ) {H : Type} {enc : TypeId × Value → H} {W : World} {base : Nat} {v : Value} {d : DataW H} {ps : List MemPlace} (hval : Value.okWide P W .any base t v) (h : DataW.Trod enc P W 0 (fun _ => true) true t v d ps) (hw : ∀ n ∈ d.weights P t, n ≤ reachBytes) :
    ∃ A c xs, v = .slice A xs.length c ∧ sliceAt (heapOf W) R A c xs ∧ φ xs ∧ ∀ B : Bulk H, μ xs ≤ B.f d := by
  obtain ⟨A, n, c, rfl⟩ := okWide_slice ht hval
  obtain ⟨xs, ⟨A', c', e, h1⟩, h2⟩ := arg_reads hr h hw
  simp only [Value.cells, List.cons.injEq, and_true] at e
  cases e
  exact ⟨_, _, xs, rfl, h1, h2⟩
theorem arg_int {k : IntKind} (ht : P.underlying t = some (.int k)) {H : Type} {enc : TypeId × Value → H} {W : World} {base : Nat} {v : Value} {d : DataW H} {ps : List MemPlace} (hval : Value.okWide P W .any base t v) (h : DataW.Trod enc P W 0 (fun _ => true) true t v d ps) : ∃ n, v = .int k n ∧ intIn k n := by
  obtain ⟨n, rfl, _, _, hw⟩ := open_int ht hval h
  exact ⟨n, rfl, wf_in hw⟩
end

section
variable {P : Program} {t : TypeId} {H : Type} {enc : TypeId × Value → H} {W : World} {held : Bool}
end
/-! ### What is kept -/
theorem sat_init {W : World} {L : List HP} (h : Sep L (heapOf W) Mem.emp) : Sat W W L := ⟨⟨heapOf W, Mem.emp, Mem.disj_symm (Mem.emp_disj _), Mem.le_refl _, Mem.emp_le _, h⟩, rfl, rfl, rfl, Nat.le_refl _⟩
theorem sep_nil {M : Mem} : Sep [] M Mem.emp := trivial
theorem sep_cons {M : Mem} {p : HP} {L : List HP} (h : p.holds M Mem.emp) (k : Sep L M Mem.emp) : Sep (p :: L) M Mem.emp := ⟨Mem.emp, Mem.emp, Mem.emp_disj _, Mem.le_refl _, Mem.le_refl _, h, k⟩
theorem below_of {W w' : World} {L : List HP} (h : Sat W w' (base (heapOf W) :: L)) : Below W.heap.size W w' := by
  obtain ⟨M, k, hd, hM, hk, h1, h2, hd', l1, l2, hp, hs⟩ := h.ex
  refine ⟨h.os, h.tape, h.output, h.size, fun j hj => ?_⟩
  have e : heapOf W j = some (W.heap[j]'hj) := Array.getElem?_eq_getElem hj
  have := hM _ _ (hp _ _ e)
  rw [Array.getElem?_eq_getElem hj]
  exact this
theorem law_calls {P : Program} {f : FuncId} {args : Array Value} {W : World} {L : List HP} (hs : Sep (base (heapOf W) :: L) (heapOf W) Mem.emp) (h : Fn P f args (base (heapOf W) :: L) (fun v L' => v = .bool true ∧ L' = base (heapOf W) :: L)) : Calls P f args W fun e W' => e = .returned (.bool true) ∧ Below W.heap.size W W' :=
  (h W W (sat_init hs)).mono fun e w' ⟨v, L', he, ⟨hv, hL⟩, hsat⟩ => by
    subst he; subst hv; subst hL
    exact ⟨rfl, below_of hsat⟩
theorem trodAll_below {H : Type} {enc : TypeId × Value → H} {P : Program} {W W' : World} (hl : laidOutB P = true) (hb : Below W.heap.size W W') : ∀ {ts : List TypeId} {vs : List Value} {ds : List (DataW H)} {ps : List MemPlace}, ts.all (fun t => P.readableRec t && decide (t < P.types.size)) = true → DataW.TrodAll enc P W 0 (fun _ => true) true ts vs ds ps → (∀ x ∈ ps, x.block < W.heap.size) →
    DataW.TrodAll enc P W' 0 (fun b => decide (b < W.heap.size)) true ts vs ds ps
  | [], _, _, _, _, h, _ => by
    obtain ⟨rfl, rfl, rfl⟩ := trodAll_nil h
    exact trodAll_mk0
  | t :: ts, vs, ds, ps, hts, h, hp => by
    obtain ⟨v, vs1, d, ds1, a, b, rfl, rfl, rfl, h1, h2⟩ := trodAll_cons h
    simp only [List.all_cons, Bool.and_eq_true, decide_eq_true_eq] at hts
    exact trodAll_cons_mk (Below.trod hl hts.1.1 hts.1.2 h1 hb (fun x hx => hp x (List.mem_append_left _ hx))) (trodAll_below hl hb hts.2 h2 (fun x hx => hp x (List.mem_append_right _ hx)))
theorem post_true {H : Type} {enc : TypeId × Value → H} {P : Program} {f : Func} {s : ChangeSpec} {apart fresh handsOn : Bool} {W W' : World} {args : Array Value} {ds gs : List (DataW H)} {before : List MemPlace} {tb : TypeId}
    (hW : DataW.Whole enc P f.params.toList s.vars apart W args.toList ds gs before) (hb : Below W.heap.size W W') (hl : laidOutB P = true) (hts : f.params.toList.all (fun t => P.readableRec t && decide (t < P.types.size)) = true) (hr : f.resultTypes = #[tb]) (htb : P.underlying tb = some .bool) (hv : s.vars = [])
    (hfn : s.fn H (ds ++ gs) = { results := [.lit (.bool true)], args := ds }) : s.post enc P f apart fresh handsOn false W args (.bool true) W' := by
  have hW' := hW
  obtain ⟨p, q, hA, hV, rfl, hfz, hnd⟩ := hW
  rw [hv] at hV
  obtain ⟨rfl, rfl⟩ := trodVars_none hV
  refine ⟨ds, [], p ++ [], [], p, [], hW', ?_, ?_, ?_, hb.frame _, fun h => by cases h⟩
  · rw [hfn, hr]
    exact trodAll_cons_mk (shut_bool htb true) trodAll_mk0
  · rw [hfn]
    exact trodAll_below hl hb hts hA (fun x hx => by simpa using hW'.lt x (by simpa using hx))
  · rw [hfn, hv]
    exact (by simp [DataW.TrodVars])
end Go.SL
set_option linter.unusedVariables false
namespace Go.SL
open Go Go.Proofs
def μSeal (x : OrderD) : Nat := x.token.size + x.cart.size + x.cut.length + 5
def μEntry (e : EntryD) : Nat := μSeal e.order + 2
end Go.SL
set_option linter.unusedVariables false
namespace Go.SL
open Go Go.Proofs
def pairR : Rep (Int × Int) := ⟨2, fun _ a cs => cs = [.int .i64 a.1, .int .i64 a.2] ∧ intIn .i64 a.1 ∧ intIn .i64 a.2, fun _ h => h, fun h => by rw [h.1]; rfl, fun h v hv => by rw [h.1] at hv; simp at hv; rcases hv with rfl | rfl <;> rfl⟩
def μEvent (e : EventD) : Nat := e.deps.length + e.cart.size + e.sku.size + 8
def μVoted (v : VotedD) : Nat := μEntry v.en + 3
def μMsg (m : MsgD) : Nat := μEntry m.en + (m.voted.map μVoted).sum + m.seen.length + (m.events.map μEvent).sum + 10
def msgR : Rep MsgD := exR 15 msgC (fun m p => [sl (intR .i64) p.cut.1 p.cut.2 m.en.order.cut, sl votedR p.voted.1 p.voted.2 m.voted, sl (intR .i64) p.seen.1 p.seen.2 m.seen, sl eventR p.events.1 p.events.2 m.events]) MsgOk (fun _ _ => rfl) (fun _ _ => rfl)
end Go.SL
set_option linter.unusedVariables false
set_option linter.unusedSimpArgs false
namespace Go.SL
open Go Go.Proofs
abbrev msgV (m : MsgD) (p : MsgP) : Value := .agg (List.toArray (msgC m p))
abbrev eventV (e : EventD) (p : Option Addr × Nat) : Value := .agg (List.toArray (eventC e p))
theorem outE_ok {s : WS} (h : outE s = 0) : s.2 = false ∧ outB s = s.1 := by
  unfold outE at h
  split at h
  · simp at h
  · rename_i h1
    split at h
    · simp at h
    · rename_i h2
      have h1' : s.2 = false := by simpa using h1
      exact ⟨h1', by rw [outB, if_neg (by rw [h1']; simp; omega)]⟩
theorem out_msg {m : MsgD} (h : outE (wMsg m ([], false)) = 0) : rMsg m ∧ outB (wMsg m ([], false)) = bMsg m := by
  obtain ⟨h1, h2⟩ := outE_ok h
  have hr := (wMsg_bad.1 h1).2
  rw [h2, wMsg_ok rfl hr]
  exact ⟨hr, rfl⟩
/-! ### Bytes are bytes -/
def Byt (l : List Int) : Prop := ∀ x ∈ l, 0 ≤ x ∧ x ≤ 255
theorem MsgK.lay {L : List HP} {m : MsgD} {p : MsgP} (h : MsgK L m p) : Gives L (sl (intR .i64) p.cut.1 p.cut.2 m.en.order.cut :: sl votedR p.voted.1 p.voted.2 m.voted :: sl (intR .i64) p.seen.1 p.seen.2 m.seen :: sl eventR p.events.1 p.events.2 m.events :: L) :=
  (SlK.lay h.events).trans ((SlK.lay h.seen.tail).trans ((SlK.lay h.voted.tail.tail).trans (SlK.lay h.cut.tail.tail.tail)))
end Go.SL
set_option linter.unusedVariables false
set_option linter.unusedSimpArgs false
namespace Go.SL
open Go Go.Proofs
structure RS where
  b : List Int
  n : Nat
  bad : Bool
/-- A part is read: what it tells of the bytes. -/
structure RdR {α : Type} (ok iv : α → Prop) (b : α → List Int) (s : RS) (x : α) (s' : RS) : Prop where
  snd : s'.bad = false → s.bad = false ∧ ok x ∧ s.b = b x ++ s'.b
  cmp : ∀ y r, s.bad = false → ok y → s.b = b y ++ r → s'.bad = false
  tot : s'.n + s'.b.length = s.n + s.b.length
  iv : iv x
section
variable {α β : Type} {ok iv : α → Prop} {b : α → List Int} {s s1 s2 : RS} {x : α}
theorem RdR.seq {ok2 iv2 : β → Prop} {b2 : β → List Int} {y : β} (h1 : RdR ok iv b s x s1) (hp : PF ok b) (h2 : RdR ok2 iv2 b2 s1 y s2) : RdR (fun p : α × β => ok p.1 ∧ ok2 p.2) (fun p => iv p.1 ∧ iv2 p.2) (fun p => b p.1 ++ b2 p.2) s (x, y) s2 := by
  refine ⟨fun h => ?_, fun y r hs hy hb => ?_, by rw [h2.tot, h1.tot], h1.iv, h2.iv⟩
  · obtain ⟨a1, a2, a3⟩ := h2.snd h
    obtain ⟨c1, c2, c3⟩ := h1.snd a1
    exact ⟨c1, ⟨c2, a2⟩, by rw [c3, a3, List.append_assoc]⟩
  · rw [List.append_assoc] at hb
    have g1 := h1.cmp _ _ hs hy.1 hb
    obtain ⟨c1, c2, c3⟩ := h1.snd g1
    obtain ⟨_, e⟩ := hp _ _ _ _ c2 hy.1 (c3.symm.trans hb)
    exact h2.cmp _ _ g1 hy.2 e
theorem RdR.map {ok2 iv2 : β → Prop} {b2 : β → List Int} (f : α → β) (g : β → α) (h : RdR ok iv b s x s1) (hg : g (f x) = x) (hok : ∀ y, ok2 y ↔ ok (g y)) (hb : ∀ y, b2 y = b (g y)) (hiv : iv x → iv2 (f x)) : RdR ok2 iv2 b2 s (f x) s1 := by
  refine ⟨fun k => ?_, fun y r hs hy he => h.cmp (g y) r hs ((hok y).1 hy) (by rw [he, hb]), h.tot, hiv h.iv⟩
  obtain ⟨a1, a2, a3⟩ := h.snd k
  exact ⟨a1, (hok _).2 (by rw [hg]; exact a2), by rw [hb, hg]; exact a3⟩
theorem RdR.bytes (h : RdR ok iv b s x s1) (hb : ∀ y, b y = b y) : RdR ok iv b s x s1 := h
end

/-! ### A number, a text are taken -/
def TakeU (s : RS) (x : Nat) (s' : RS) : Prop := (s.bad = false ∧ ∃ k, RdU s.b x k 0 ∧ s' = ⟨s.b.drop k, s.n + k, false⟩) ∨ (s' = ⟨s.b, s.n, true⟩ ∧ x = 0 ∧ (s.bad = true ∨ RdU s.b 0 0 10))
def TakeT (most : Int) (s : RS) (x : ByteArray) (s' : RS) : Prop := (s.bad = false ∧ ∃ k, RdT s.b most x k 0 ∧ s' = ⟨s.b.drop k, s.n + k, false⟩) ∨ (s' = ⟨s.b, s.n, true⟩ ∧ x = ⟨#[]⟩ ∧ (s.bad = true ∨ RdT s.b most ⟨#[]⟩ 0 10))
theorem rdU_split {bs : List Int} {x k : Nat} (h : RdU bs x k 0) : bs = grp x ++ bs.drop k ∧ k ≤ bs.length ∧ x < 18446744073709551616 := by
  rcases h with ⟨_, h2, h3, h4, h5⟩ | ⟨h, _⟩
  · exact ⟨by rw [← h3, List.take_append_drop], h5, h2⟩
  · cases h
theorem rdT_split {bs : List Int} {most : Int} {x : ByteArray} {k : Nat} (h : RdT bs most x k 0) : bs = txt x ++ bs.drop k ∧ k ≤ bs.length ∧ (x.size : Int) ≤ most := by
  rcases h with ⟨_, h2, h3, h4, h5⟩ | ⟨h, _⟩
  · exact ⟨by rw [← h3, List.take_append_drop], h5, h2⟩
  · cases h
/-- A number that is no more than a bound. -/
theorem numR {most : Int} (hm : 0 ≤ most ∧ most ≤ 4611686018427387904) {s s' : RS} {x : Nat} (h : TakeU s x s') :
    ((x : Int) ≤ most → RdR (rNum most) (rNum most) bNum s (x : Int) s') ∧ (most < (x : Int) → RdR (rNum most) (rNum most) bNum s 0 ⟨s'.b, s'.n, true⟩) := by
  rcases h with ⟨h0, k, h1, rfl⟩ | ⟨rfl, rfl, h1⟩
  · obtain ⟨e1, e2, e3⟩ := rdU_split h1
    have ht : s.n + k + (s.b.drop k).length = s.n + s.b.length := by rw [List.length_drop]; omega
    refine ⟨fun hx => ⟨fun _ => ⟨h0, by unfold rNum; omega, by unfold bNum; exact e1⟩, fun _ _ _ _ _ => rfl, ht, by unfold rNum; omega⟩, fun hx => ⟨(fun k => by cases k), fun y r _ hy hb => ?_, ht, by unfold rNum; omega⟩⟩
    unfold rNum at hy
    rw [e1] at hb
    obtain ⟨e4, _⟩ := pf_grp (y := y.toNat) e3 (by omega) hb
    omega
  · refine ⟨fun hx => ⟨(fun k => by cases k), fun y r hs hy hb => ?_, rfl, by unfold rNum; omega⟩, fun hx => by omega⟩
    rcases h1 with h1 | h1
    · rw [hs] at h1; cases h1
    · unfold rNum at hy
      rw [hb] at h1
      have := (rdU_unique h1 (rdU_of_grp (x := y.toNat) (by omega) r)).2.2
      cases this
def txtOf (most : Int) (s : ByteArray) : Prop := (s.size : Int) ≤ most
theorem txtR {s s' : RS} {x : ByteArray} (h : TakeT 32 s x s') : (isName x → RdR isName (fun x => x.size ≤ 32) txt s x s') ∧ (¬ isName x → RdR isName (fun x => x.size ≤ 32) txt s x ⟨s'.b, s'.n, true⟩) := by
  rcases h with ⟨h0, k, h1, rfl⟩ | ⟨rfl, rfl, h1⟩
  · obtain ⟨e1, e2, e3⟩ := rdT_split h1
    have ht : s.n + k + (s.b.drop k).length = s.n + s.b.length := by rw [List.length_drop]; omega
    refine ⟨fun hx => ⟨fun _ => ⟨h0, hx, e1⟩, fun _ _ _ _ _ => rfl, ht, by omega⟩, fun hx => ⟨(fun k => by cases k), fun y r _ hy hb => ?_, ht, by omega⟩⟩
    rw [e1] at hb
    have hy2 := hy.2.2
    obtain ⟨e4, _⟩ := pf_txt (by omega) (by omega) hb
    rw [e4] at hx; exact absurd hy hx
  · refine ⟨fun hx => absurd (by decide : (⟨#[]⟩ : ByteArray).size = 0) hx.2.1, fun hx => ⟨(fun k => by cases k), fun y r hs hy hb => ?_, rfl, by decide⟩⟩
    rcases h1 with h1 | h1
    · rw [hs] at h1; cases h1
    · rw [hb] at h1
      have hy2 := hy.2.2
      have := (rdT_unique (s' := y) (n' := (txt y).length) (e' := 0) (by decide) h1 (.inl ⟨rfl, by omega, by simp, rfl, by simp⟩)).2.2
      cases this

/-! ### The reader in memory -/
abbrev rdF (b : Nat) (s : RS) (p : Option Addr × Nat) : List HP := [cells b [.slice p.1 s.b.length p.2, .int .i64 (s.n : Int), .bool s.bad] 68, sl (intR .u8) p.1 p.2 s.b]
def rdr (b : Nat) (s : RS) : HP := exH (rdF b s)
def rdN (b : Nat) (n : Int) (bad : Bool) : HP := exH fun v0 : Value => [cells b [v0, .int .i64 n, .bool bad] 68]
section
variable {r : Option Nat} {n : Nat} {P : Program} {ops : Array Oper} {rest : List Oper} {K : St → Prop} {Q : Exit → St → Prop} {D : List Deferred} {E : Env} {L L' : List HP} {b : Nat} {s : RS} {ty : TypeId}
theorem T_rdr {c : Code} (h : ∀ A c', T r n P c ⟨D, E, cells b [.slice A s.b.length c', .int .i64 (s.n : Int), .bool s.bad] 68 :: sl (intR .u8) A c' s.b :: L⟩ Q) : T r n P c ⟨D, E, rdr b s :: L⟩ Q := T_exH (f := rdF b s) fun p => h p.1 p.2
theorem rdr_close {A : Option Addr} {c : Nat} {L1 : List HP} (b : Nat) (s : RS) [h1 : FindC L b [.slice A s.b.length c, .int .i64 (s.n : Int), .bool s.bad] 68 L1] (hk : SlK L1 (intR .u8) A c s.b) : Gives L (rdr b s :: L1) := by
  refine Gives.trans (h1.g.trans (Gives.cons _ hk.lay)) ?_
  exact exH_close (f := rdF b s) (A, c)
instance findHP_rdN {v0 : Value} {m : Int} {bad : Bool} {L1 : List HP} [h : FindC L b [v0, .int .i64 m, .bool bad] 68 L1] : FindHP L (rdN b m bad) L1 := ⟨h.g.trans (exH_close (f := fun v0 : Value => [cells b [v0, .int .i64 m, .bool bad] 68]) v0)⟩
theorem Y_load_rdN {x : Operand} {t : TypeId} {m : Int} {bad : Bool} [ht : TyAgg P t false] (hx : ev E x = some (.pointer (some ⟨b, 1, none⟩))) : Yl P E (rdN b m bad :: L) (.load t x) ty (.int .i64 m) := fun n D W a w dst pos af g ha hs => by
  obtain ⟨v0, hv⟩ := exH_open hs
  exact Y_load (L := cells b [v0, .int .i64 m, .bool bad] 68 :: L) (ht := ht) hx rfl n D W a w dst pos af g ha hv
end
instance findK_rdr {L : List HP} {b : Nat} {s : RS} : FindK (rdr b s :: L) b (rdr b s) L := ⟨Gives.refl _⟩
end Go.SL
set_option linter.unusedVariables false
set_option linter.unusedSimpArgs false
namespace Go.SL
open Go Go.Proofs
theorem takeU_spec {L : List HP} {b : Nat} {s : RS} (hn : s.n + s.b.length ≤ 140737488355328) : Fn Tryz.prog 65 #[.pointer (some ⟨b, 0, none⟩), .func (.func 66) #[] #[]] (rdr b s :: L) (fun v L' => ∃ x s', v = .int .u64 ((x : Nat) : Int) ∧ L' = rdr b s' :: L ∧ TakeU s x s') := by
  refine Fn_enter Tryz.func65 rfl rfl rfl rfl ?_
  refine T_rdr fun A c => ?_
  refine T_region ?_
  refine TL_y rfl rfl (Y_assign rfl) ?_
  refine TL_nil ?_
  refine T_region ?_
  refine TL_y rfl rfl (Y_move rfl) ?_
  refine TL_y rfl rfl (Y_move rfl) ?_
  refine TL_y rfl rfl (Y_nil_check rfl) ?_
  refine TL_y rfl rfl (Y_field_addr rfl) ?_
  refine TL_y rfl rfl (Y_load rfl rfl) ?_
  refine TL_call_fn rfl rfl rfl (readUint_spec slk) ?_
  rintro _ _ ⟨⟨x, k, e, rfl, hr⟩, rfl⟩
  have he := rdU_e hr
  refine TL_y rfl rfl (Y_move rfl) ?_
  refine TL_y rfl rfl (Y_extract rfl rfl) ?_
  refine TL_y rfl rfl (Y_extract rfl rfl) ?_
  refine TL_y rfl rfl (Y_extract rfl rfl) ?_
  refine TL_y rfl rfl (Y_assign rfl) ?_
  refine TL_y rfl rfl (Y_assign rfl) ?_
  refine TL_y rfl rfl (Y_assign rfl) ?_
  refine TL_nil ?_
  refine T_seq ?_
  refine T_region ?_
  refine TL_y rfl rfl (Y_move rfl) ?_
  refine TL_y rfl rfl (Y_nil_check rfl) ?_
  refine TL_y rfl rfl (Y_field_addr rfl) ?_
  refine TL_y rfl rfl (Y_load rfl rfl) ?_
  refine TL_y rfl rfl (Y_move rfl) ?_
  refine TL_split 23 rfl (fun h23 => ?_) (fun h23 => ?_)
  · refine TL_gskip rfl rfl rfl rfl ?_
    refine TL_gskip rfl rfl rfl rfl ?_
    refine TL_y rfl rfl (Y_pick_t rfl rfl) ?_
    refine TL_nil ?_
    refine T_cond_true rfl ?_
    refine T_region ?_
    refine TL_y rfl rfl (Y_move rfl) ?_
    refine TL_y rfl rfl (Y_nil_check rfl) ?_
    refine TL_y rfl rfl (Y_field_addr rfl) ?_
    refine TL_store rfl rfl rfl rfl rfl rfl ?_
    refine TL_nil ?_
    refine T_region ?_
    refine TL_y rfl rfl (Y_assign rfl) ?_
    refine TL_nil ?_
    refine T_region ?_
    refine TL_y rfl rfl (Y_move rfl) ?_
    refine TL_y rfl rfl (Y_assign rfl) ?_
    refine TL_nil ?_
    refine T_ret ?_
    refine thenS_ret ?_
    refine RetQ.gives (rdr_close b ⟨s.b, s.n, true⟩ slk) ?_
    exact RetG_1 (.inl rfl) rfl (ResV.tmp rfl) GivesTo.g (⟨0, ⟨s.b, s.n, true⟩, rfl, rfl, .inr ⟨rfl, rfl, .inl h23⟩⟩)
  · refine TL_grun rfl rfl ?_
    refine TL_y rfl rfl (Y_move rfl) ?_
    refine TL_grun rfl rfl ?_
    refine TL_y rfl rfl (Y_ne rfl rfl) ?_
    refine TL_y rfl rfl (Y_pick_f rfl rfl) ?_
    refine TL_nil ?_
    refine T_if rfl (fun h26 => ?_) (fun h26 => ?_)
    · have hbad : RdU s.b 0 0 10 := by rcases he with ⟨e1, _⟩ | ⟨e1, e2, e3⟩; omega; (subst e1; subst e2; subst e3; exact hr)
      refine T_region ?_
      refine TL_y rfl rfl (Y_move rfl) ?_
      refine TL_y rfl rfl (Y_nil_check rfl) ?_
      refine TL_y rfl rfl (Y_field_addr rfl) ?_
      refine TL_store rfl rfl rfl rfl rfl rfl ?_
      refine TL_nil ?_
      refine T_region ?_
      refine TL_y rfl rfl (Y_assign rfl) ?_
      refine TL_nil ?_
      refine T_region ?_
      refine TL_y rfl rfl (Y_move rfl) ?_
      refine TL_y rfl rfl (Y_assign rfl) ?_
      refine TL_nil ?_
      refine T_ret ?_
      refine thenS_ret ?_
      refine RetQ.gives (rdr_close b ⟨s.b, s.n, true⟩ slk) ?_
      exact RetG_1 (.inl rfl) rfl (ResV.tmp rfl) GivesTo.g (⟨0, ⟨s.b, s.n, true⟩, rfl, rfl, .inr ⟨rfl, rfl, .inr hbad⟩⟩)
    · obtain rfl : e = 0 := by omega
      have hk := (rdU_split hr).2.1
      refine T_skip ?_
      refine thenS_normal ?_
      refine T_region_draw (rdN b (s.n : Int) s.bad :: []) [0, 0, 0, 4, 12, 28, 0, 124, 0, 256, 768, 1792, 0, 7936, 4093, 20477, 53245, 131071, 262143, 524287] [19] [(0, true), (1, true), (2, true), (3, true), (4, true), (6, true), (8, true), (9, true), (10, true), (11, true), (12, true), (13, true), (5, false), (7, true), (14, true), (15, true), (16, false), (17, true), (18, true), (19, false)] (by kernel_rfl) (by decide +kernel) GivesTo.g ?_
      refine TF_y rfl rfl (Y_move rfl) ?_
      refine TF_y rfl rfl (Y_move rfl) ?_
      refine TF_y rfl rfl (Y_move rfl) ?_
      refine TF_y rfl rfl (Y_nil_check rfl) ?_
      refine TF_y rfl rfl (Y_field_addr rfl) ?_
      refine TF_y rfl rfl (Y_move rfl) ?_
      refine TF_y rfl rfl (Y_move rfl) ?_
      refine TF_y rfl rfl (Y_nil_check rfl) ?_
      refine TF_y rfl rfl (Y_field_addr rfl) ?_
      refine TF_y rfl rfl (Y_load_rdN rfl) ?_
      refine TF_y rfl rfl (Y_move rfl) ?_
      refine TF_y rfl rfl (Y_add rfl rfl (by omega)) ?_
      refine TF_name 44 (v' := .int .i64 ((s.n + k : Nat) : Int)) rfl (rfl) ?_
      refine TF_anchor rfl ?_
      refine TL_y rfl rfl (Y_load rfl rfl) ?_
      refine TF_end GivesTo.g ?_
      refine TF_y rfl rfl (Y_cut_l rfl rfl (by omega)) ?_
      refine TF_name 38 (v' := .slice (cutA A k c 1) (s.b.drop k).length (c - k)) rfl (by rw [List.length_drop]; rfl) ?_
      refine TF_y rfl rfl (Y_nil_check rfl) ?_
      refine TF_y rfl rfl (Y_field_addr rfl) ?_
      refine TF_anchor rfl ?_
      refine TL_store rfl rfl rfl rfl rfl rfl ?_
      refine TF_end GivesTo.g ?_
      refine TF_y rfl rfl (Y_nil_check rfl) ?_
      refine TF_y rfl rfl (Y_field_addr rfl) ?_
      refine TF_anchor rfl ?_
      refine TL_store rfl rfl rfl rfl rfl rfl ?_
      refine TF_end_tail rfl ?_
      refine TF_nil ?_
      refine T_region ?_
      refine TL_y rfl rfl (Y_move rfl) ?_
      refine TL_y rfl rfl (Y_assign rfl) ?_
      refine TL_nil ?_
      refine T_ret ?_
      refine RetQ.gives (rdr_close b ⟨s.b.drop k, s.n + k, s.bad⟩ (SlK.drop (slk (A := A) (c := c)) hk)) ?_
      rw [h23]
      exact RetG_1 (.inl rfl) rfl (ResV.tmp rfl) GivesTo.g (⟨x, ⟨s.b.drop k, s.n + k, false⟩, rfl, rfl, .inl ⟨h23, k, hr, rfl⟩⟩)
theorem rdT_e {bs : List Int} {most : Int} {x : ByteArray} {n e : Nat} (h : RdT bs most x n e) : (e = 0 ∧ n ≤ bs.length) ∨ (e = 10 ∧ x = ⟨#[]⟩ ∧ n = 0) := by
  rcases h with ⟨h1, h2, h3, h4, h5⟩ | ⟨h1, h2, h3, h4⟩
  · exact .inl ⟨h1, h5⟩
  · exact .inr ⟨h1, h2, h3⟩
theorem name1_spec {L : List HP} {A : Option Addr} {c : Nat} {bs : List Int} (hk : SlK L (intR .u8) A c bs) : Fn Tryz.prog 96 #[.slice A bs.length c] L (fun v L' => (∃ (s : ByteArray) (n e : Nat), v = .tuple #[.string s, .int .i64 (n : Int), .int .i64 (e : Int)] ∧ RdT bs 32 s n e) ∧ L' = L) := by
  refine Fn_enter Tryz.func96 rfl rfl rfl rfl ?_
  refine T_region ?_
  refine TL_y rfl rfl (Y_assign rfl) ?_
  refine TL_y rfl rfl (Y_assign rfl) ?_
  refine TL_y rfl rfl (Y_assign rfl) ?_
  refine TL_nil ?_
  refine T_region ?_
  refine TL_y rfl rfl (Y_move rfl) ?_
  refine TL_call rfl rfl (readText_spec hk 32 (by decide)) ?_
  rintro _ _ ⟨⟨s, n, e, rfl, hr⟩, rfl⟩
  refine TL_y rfl rfl (Y_extract rfl rfl) ?_
  refine TL_y rfl rfl (Y_extract rfl rfl) ?_
  refine TL_y rfl rfl (Y_extract rfl rfl) ?_
  refine TL_y rfl rfl (Y_assign rfl) ?_
  refine TL_y rfl rfl (Y_assign rfl) ?_
  refine TL_y rfl rfl (Y_assign rfl) ?_
  refine TL_nil ?_
  refine T_ret ?_
  exact RetG_3 (.inl rfl) rfl (ResV.tmp rfl) (ResV.tmp rfl) (ResV.tmp rfl) GivesTo.g (⟨⟨s, n, e, rfl, hr⟩, rfl⟩)
theorem takeT_spec {L : List HP} {b : Nat} {s : RS} (hn : s.n + s.b.length ≤ 140737488355328) : Fn Tryz.prog 95 #[.pointer (some ⟨b, 0, none⟩), .func (.func 96) #[] #[]] (rdr b s :: L) (fun v L' => ∃ x s', v = .string x ∧ L' = rdr b s' :: L ∧ TakeT 32 s x s') := by
  refine Fn_enter Tryz.func95 rfl rfl rfl rfl ?_
  refine T_rdr fun A c => ?_
  refine T_region ?_
  refine TL_y rfl rfl (Y_assign rfl) ?_
  refine TL_nil ?_
  refine T_region ?_
  refine TL_y rfl rfl (Y_move rfl) ?_
  refine TL_y rfl rfl (Y_move rfl) ?_
  refine TL_y rfl rfl (Y_nil_check rfl) ?_
  refine TL_y rfl rfl (Y_field_addr rfl) ?_
  refine TL_y rfl rfl (Y_load rfl rfl) ?_
  refine TL_call_fn rfl rfl rfl (name1_spec slk) ?_
  rintro _ _ ⟨⟨x, k, e, rfl, hr⟩, rfl⟩
  have he := rdT_e hr
  refine TL_y rfl rfl (Y_move rfl) ?_
  refine TL_y rfl rfl (Y_extract rfl rfl) ?_
  refine TL_y rfl rfl (Y_extract rfl rfl) ?_
  refine TL_y rfl rfl (Y_extract rfl rfl) ?_
  refine TL_y rfl rfl (Y_assign rfl) ?_
  refine TL_y rfl rfl (Y_assign rfl) ?_
  refine TL_y rfl rfl (Y_assign rfl) ?_
  refine TL_nil ?_
  refine T_seq ?_
  refine T_region ?_
  refine TL_y rfl rfl (Y_move rfl) ?_
  refine TL_y rfl rfl (Y_nil_check rfl) ?_
  refine TL_y rfl rfl (Y_field_addr rfl) ?_
  refine TL_y rfl rfl (Y_load rfl rfl) ?_
  refine TL_y rfl rfl (Y_move rfl) ?_
  refine TL_split 23 rfl (fun h23 => ?_) (fun h23 => ?_)
  · refine TL_gskip rfl rfl rfl rfl ?_
    refine TL_gskip rfl rfl rfl rfl ?_
    refine TL_y rfl rfl (Y_pick_t rfl rfl) ?_
    refine TL_nil ?_
    refine T_cond_true rfl ?_
    refine T_region ?_
    refine TL_y rfl rfl (Y_move rfl) ?_
    refine TL_y rfl rfl (Y_nil_check rfl) ?_
    refine TL_y rfl rfl (Y_field_addr rfl) ?_
    refine TL_store rfl rfl rfl rfl rfl rfl ?_
    refine TL_nil ?_
    refine T_region ?_
    refine TL_y rfl rfl (Y_assign rfl) ?_
    refine TL_nil ?_
    refine T_region ?_
    refine TL_y rfl rfl (Y_move rfl) ?_
    refine TL_y rfl rfl (Y_assign rfl) ?_
    refine TL_nil ?_
    refine T_ret ?_
    refine thenS_ret ?_
    refine RetQ.gives (rdr_close b ⟨s.b, s.n, true⟩ slk) ?_
    exact RetG_1 (.inl rfl) rfl (ResV.tmp rfl) GivesTo.g (⟨⟨#[]⟩, ⟨s.b, s.n, true⟩, rfl, rfl, .inr ⟨rfl, rfl, .inl h23⟩⟩)
  · refine TL_grun rfl rfl ?_
    refine TL_y rfl rfl (Y_move rfl) ?_
    refine TL_grun rfl rfl ?_
    refine TL_y rfl rfl (Y_ne rfl rfl) ?_
    refine TL_y rfl rfl (Y_pick_f rfl rfl) ?_
    refine TL_nil ?_
    refine T_if rfl (fun h26 => ?_) (fun h26 => ?_)
    · have hbad : RdT s.b 32 ⟨#[]⟩ 0 10 := by rcases he with ⟨e1, _⟩ | ⟨e1, e2, e3⟩; omega; (subst e1; subst e2; subst e3; exact hr)
      refine T_region ?_
      refine TL_y rfl rfl (Y_move rfl) ?_
      refine TL_y rfl rfl (Y_nil_check rfl) ?_
      refine TL_y rfl rfl (Y_field_addr rfl) ?_
      refine TL_store rfl rfl rfl rfl rfl rfl ?_
      refine TL_nil ?_
      refine T_region ?_
      refine TL_y rfl rfl (Y_assign rfl) ?_
      refine TL_nil ?_
      refine T_region ?_
      refine TL_y rfl rfl (Y_move rfl) ?_
      refine TL_y rfl rfl (Y_assign rfl) ?_
      refine TL_nil ?_
      refine T_ret ?_
      refine thenS_ret ?_
      refine RetQ.gives (rdr_close b ⟨s.b, s.n, true⟩ slk) ?_
      exact RetG_1 (.inl rfl) rfl (ResV.tmp rfl) GivesTo.g (⟨⟨#[]⟩, ⟨s.b, s.n, true⟩, rfl, rfl, .inr ⟨rfl, rfl, .inr hbad⟩⟩)
    · obtain rfl : e = 0 := by omega
      have hk := (rdT_split hr).2.1
      refine T_skip ?_
      refine thenS_normal ?_
      refine T_region_draw (rdN b (s.n : Int) s.bad :: []) [0, 0, 0, 4, 12, 28, 0, 124, 0, 256, 768, 1792, 0, 7936, 4093, 20477, 53245, 131071, 262143, 524287] [19] [(0, true), (1, true), (2, true), (3, true), (4, true), (6, true), (8, true), (9, true), (10, true), (11, true), (12, true), (13, true), (5, false), (7, true), (14, true), (15, true), (16, false), (17, true), (18, true), (19, false)] (by kernel_rfl) (by decide +kernel) GivesTo.g ?_
      refine TF_y rfl rfl (Y_move rfl) ?_
      refine TF_y rfl rfl (Y_move rfl) ?_
      refine TF_y rfl rfl (Y_move rfl) ?_
      refine TF_y rfl rfl (Y_nil_check rfl) ?_
      refine TF_y rfl rfl (Y_field_addr rfl) ?_
      refine TF_y rfl rfl (Y_move rfl) ?_
      refine TF_y rfl rfl (Y_move rfl) ?_
      refine TF_y rfl rfl (Y_nil_check rfl) ?_
      refine TF_y rfl rfl (Y_field_addr rfl) ?_
      refine TF_y rfl rfl (Y_load_rdN rfl) ?_
      refine TF_y rfl rfl (Y_move rfl) ?_
      refine TF_y rfl rfl (Y_add rfl rfl (by omega)) ?_
      refine TF_name 44 (v' := .int .i64 ((s.n + k : Nat) : Int)) rfl (rfl) ?_
      refine TF_anchor rfl ?_
      refine TL_y rfl rfl (Y_load rfl rfl) ?_
      refine TF_end GivesTo.g ?_
      refine TF_y rfl rfl (Y_cut_l rfl rfl (by omega)) ?_
      refine TF_name 38 (v' := .slice (cutA A k c 1) (s.b.drop k).length (c - k)) rfl (by rw [List.length_drop]; rfl) ?_
      refine TF_y rfl rfl (Y_nil_check rfl) ?_
      refine TF_y rfl rfl (Y_field_addr rfl) ?_
      refine TF_anchor rfl ?_
      refine TL_store rfl rfl rfl rfl rfl rfl ?_
      refine TF_end GivesTo.g ?_
      refine TF_y rfl rfl (Y_nil_check rfl) ?_
      refine TF_y rfl rfl (Y_field_addr rfl) ?_
      refine TF_anchor rfl ?_
      refine TL_store rfl rfl rfl rfl rfl rfl ?_
      refine TF_end_tail rfl ?_
      refine TF_nil ?_
      refine T_region ?_
      refine TL_y rfl rfl (Y_move rfl) ?_
      refine TL_y rfl rfl (Y_assign rfl) ?_
      refine TL_nil ?_
      refine T_ret ?_
      refine RetQ.gives (rdr_close b ⟨s.b.drop k, s.n + k, s.bad⟩ (SlK.drop (slk (A := A) (c := c)) hk)) ?_
      rw [h23]
      exact RetG_1 (.inl rfl) rfl (ResV.tmp rfl) GivesTo.g (⟨x, ⟨s.b.drop k, s.n + k, false⟩, rfl, rfl, .inl ⟨h23, k, hr, rfl⟩⟩)
end Go.SL
set_option linter.unusedVariables false
set_option linter.unusedSimpArgs false
namespace Go.SL
open Go Go.Proofs
theorem Y_load_rdr {P : Program} {E : Env} {L R : List HP} {b : Nat} {s : RS} {ty : TypeId} {x : Operand} {t : TypeId} [ht : TyAgg P t false] [hf : FindK L b (rdr b s) R] (hx : ev E x = some (.pointer (some ⟨b, 2, none⟩))) : Yl P E L (.load t x) ty (.bool s.bad) := fun n D W a w dst pos af g ha hs => by
  obtain ⟨p, hv⟩ := exH_open (hs.gives hf.g)
  exact Y_load (L := cells b [.slice p.1 s.b.length p.2, .int .i64 (s.n : Int), .bool s.bad] 68 :: sl (intR .u8) p.1 p.2 s.b :: R) (ht := ht) hx rfl n D W a w dst pos af g ha hv
theorem number_spec {L : List HP} {b : Nat} {s : RS} (most : Int) (hm : 0 ≤ most ∧ most ≤ 4611686018427387904) (hn : s.n + s.b.length ≤ 140737488355328) : Fn Tryz.prog 40 #[.pointer (some ⟨b, 0, none⟩), .int .i64 most] (rdr b s :: L) (fun v L' => ∃ x s', v = .int .i64 x ∧ L' = rdr b s' :: L ∧ RdR (rNum most) (rNum most) bNum s x s') := by
  refine Fn_enter Tryz.func40 rfl rfl rfl rfl ?_
  refine T_region ?_
  refine TL_y rfl rfl (Y_assign rfl) ?_
  refine TL_nil ?_
  refine T_region ?_
  refine TL_y rfl rfl (Y_move rfl) ?_
  refine TL_call rfl rfl (takeU_spec hn) ?_
  rintro _ _ ⟨x, s1, rfl, rfl, ht⟩
  have h := numR hm ht
  refine TL_y rfl rfl (Y_assign rfl) ?_
  refine TL_nil ?_
  refine T_seq ?_
  refine T_region ?_
  refine TL_y rfl rfl (Y_move rfl) ?_
  refine TL_y rfl rfl (Y_move rfl) ?_
  refine TL_y rfl rfl (Y_conv rfl) ?_
  refine TL_name 10 (v' := .int .u64 most) rfl (by rw [show most = ((most.toNat : Nat) : Int) by omega, u64_small (by omega)]) ?_
  refine TL_y rfl rfl (Y_gt rfl rfl) ?_
  refine TL_nil ?_
  refine T_if rfl (fun h11 => ?_) (fun h11 => ?_)
  · refine T_rdr fun A c => ?_
    refine T_region ?_
    refine TL_y rfl rfl (Y_move rfl) ?_
    refine TL_y rfl rfl (Y_nil_check rfl) ?_
    refine TL_y rfl rfl (Y_field_addr rfl) ?_
    refine TL_store rfl rfl rfl rfl rfl rfl ?_
    refine TL_nil ?_
    refine T_region ?_
    refine TL_y rfl rfl (Y_assign rfl) ?_
    refine TL_nil ?_
    refine T_ret ?_
    refine thenS_ret ?_
    refine RetQ.gives (rdr_close b ⟨s1.b, s1.n, true⟩ slk) ?_
    exact RetG_1 (.inl rfl) rfl (ResV.tmp rfl) GivesTo.g (⟨0, ⟨s1.b, s1.n, true⟩, rfl, rfl, h.2 (by omega)⟩)
  · refine T_skip ?_
    refine thenS_normal ?_
    refine T_region ?_
    refine TL_y rfl rfl (Y_move rfl) ?_
    refine TL_y rfl rfl (Y_conv rfl) ?_
    refine TL_name 16 (v' := .int .i64 (x : Int)) rfl (by congr 1; exact IntWalk.i64_in _ (by omega)) ?_
    refine TL_y rfl rfl (Y_assign rfl) ?_
    refine TL_nil ?_
    refine T_ret ?_
    exact RetG_1 (.inl rfl) rfl (ResV.tmp rfl) GivesTo.g (⟨(x : Int), s1, rfl, rfl, h.1 (by omega)⟩)
theorem nameR {s s' : RS} {x : ByteArray} (h : TakeT 32 s x s') : RdR isName (fun x => x.size ≤ 32) txt s x ⟨s'.b, s'.n, s'.bad || !decide (isName x)⟩ := by
  by_cases hx : isName x
  · have := (txtR h).1 hx; simpa [hx] using this
  · have := (txtR h).2 hx; simpa [hx] using this
theorem rname_spec {L : List HP} {b : Nat} {s : RS} (hn : s.n + s.b.length ≤ 140737488355328) : Fn Tryz.prog 71 #[.pointer (some ⟨b, 0, none⟩)] (rdr b s :: L) (fun v L' => ∃ x s', v = .string x ∧ L' = rdr b s' :: L ∧ RdR isName (fun x => x.size ≤ 32) txt s x s') := by
  refine Fn_enter Tryz.func71 rfl rfl rfl rfl ?_
  refine T_region ?_
  refine TL_y rfl rfl (Y_assign rfl) ?_
  refine TL_nil ?_
  refine T_region ?_
  refine TL_y rfl rfl (Y_move rfl) ?_
  refine TL_call rfl rfl (takeT_spec hn) ?_
  rintro _ _ ⟨x, s1, rfl, rfl, ht⟩
  have h := nameR ht
  have hsz := h.iv
  refine TL_y rfl rfl (Y_assign rfl) ?_
  refine TL_nil ?_
  refine T_rdr fun A c => ?_
  refine T_region ?_
  refine TL_y rfl rfl (Y_move rfl) ?_
  refine TL_y rfl rfl (Y_move rfl) ?_
  refine TL_y rfl rfl (Y_nil_check rfl) ?_
  refine TL_y rfl rfl (Y_field_addr rfl) ?_
  refine TL_y rfl rfl (Y_load rfl rfl) ?_
  refine TL_y rfl rfl (Y_move rfl) ?_
  refine TL_split 11 rfl (fun h11 => ?_) (fun h11 => ?_)
  · refine TL_gskip rfl rfl rfl rfl ?_
    refine TL_gskip rfl rfl rfl rfl ?_
    refine TL_gskip rfl rfl rfl rfl ?_
    refine TL_y rfl rfl (Y_pick_t rfl rfl) ?_
    refine TL_name 15 (v' := .bool (s1.bad || !decide (isName x))) rfl (by rw [h11]; rfl) ?_
    refine TL_y rfl rfl (Y_nil_check rfl) ?_
    refine TL_y rfl rfl (Y_field_addr rfl) ?_
    refine TL_store rfl rfl rfl rfl rfl rfl ?_
    refine TL_nil ?_
    refine T_region ?_
    refine TL_y rfl rfl (Y_move rfl) ?_
    refine TL_y rfl rfl (Y_assign rfl) ?_
    refine TL_nil ?_
    refine T_ret ?_
    refine RetQ.gives (rdr_close b ⟨s1.b, s1.n, s1.bad || !decide (isName x)⟩ slk) ?_
    exact RetG_1 (.inl rfl) rfl (ResV.tmp rfl) GivesTo.g (⟨x, _, rfl, rfl, h⟩)
  · refine TL_grun rfl rfl ?_
    refine TL_y rfl rfl (Y_move rfl) ?_
    refine TL_grun rfl rfl ?_
    refine TL_call rfl rfl (name_spec _ x (by simp only [maxEl]; omega)) ?_
    rintro _ _ ⟨rfl, rfl⟩
    refine TL_grun rfl rfl ?_
    refine TL_y rfl rfl (Y_not rfl) ?_
    refine TL_y rfl rfl (Y_pick_f rfl rfl) ?_
    refine TL_name 15 (v' := .bool (s1.bad || !decide (isName x))) rfl (by rw [h11]; rfl) ?_
    refine TL_y rfl rfl (Y_nil_check rfl) ?_
    refine TL_y rfl rfl (Y_field_addr rfl) ?_
    refine TL_store rfl rfl rfl rfl rfl rfl ?_
    refine TL_nil ?_
    refine T_region ?_
    refine TL_y rfl rfl (Y_move rfl) ?_
    refine TL_y rfl rfl (Y_assign rfl) ?_
    refine TL_nil ?_
    refine T_ret ?_
    refine RetQ.gives (rdr_close b ⟨s1.b, s1.n, s1.bad || !decide (isName x)⟩ slk) ?_
    exact RetG_1 (.inl rfl) rfl (ResV.tmp rfl) GivesTo.g (⟨x, _, rfl, rfl, h⟩)
theorem truthR {s s' : RS} {x : Int} (h : RdR (rNum 1) (rNum 1) bNum s x s') : RdR (fun _ : Bool => True) (fun _ => True) bTruth s (decide (x = 1)) s' := by
  have hx := h.iv
  unfold rNum at hx
  exact h.map (fun x => decide (x = 1)) (fun b => if b then 1 else 0) (by by_cases h1 : x = 1 <;> simp [h1]; omega) (fun y => ⟨fun _ => by cases y <;> simp [rNum], fun _ => trivial⟩) (fun y => rfl) (fun _ => trivial)
theorem rtruth_spec {L : List HP} {b : Nat} {s : RS} (hn : s.n + s.b.length ≤ 140737488355328) : Fn Tryz.prog 67 #[.pointer (some ⟨b, 0, none⟩)] (rdr b s :: L) (fun v L' => ∃ x s', v = .bool x ∧ L' = rdr b s' :: L ∧ RdR (fun _ : Bool => True) (fun _ => True) bTruth s x s') := by
  refine Fn_enter Tryz.func67 rfl rfl rfl rfl ?_
  refine T_region ?_
  refine TL_y rfl rfl (Y_assign rfl) ?_
  refine TL_nil ?_
  refine T_region ?_
  refine TL_y rfl rfl (Y_move rfl) ?_
  refine TL_call rfl rfl (number_spec 1 (by decide) hn) ?_
  rintro _ _ ⟨x, s1, rfl, rfl, h⟩
  refine TL_y rfl rfl (Y_eq rfl rfl) ?_
  refine TL_y rfl rfl (Y_assign rfl) ?_
  refine TL_nil ?_
  refine T_ret ?_
  exact RetG_1 (.inl rfl) rfl (ResV.tmp rfl) GivesTo.g (⟨decide (x = 1), s1, rfl, rfl, truthR h⟩)

/-! ### Lists -/
structure LI {α : Type} (ok iv : α → Prop) (b : α → List Int) (n : Nat) (s : RS) (xs : List α) (s' : RS) : Prop where
  snd : s'.bad = false → s.bad = false ∧ (∀ x ∈ xs, ok x) ∧ s.b = bAll b xs ++ s'.b
  cmp : ∀ ys r, s.bad = false → (∀ y ∈ ys, ok y) → ys.length = n → s.b = bAll b ys ++ r → s'.bad = false ∧ s'.b = bAll b (ys.drop xs.length) ++ r
  tot : s'.n + s'.b.length = s.n + s.b.length
  iv : ∀ x ∈ xs, iv x
theorem bAll_cons {α : Type} (b : α → List Int) (x : α) (l : List α) : bAll b (x :: l) = b x ++ bAll b l := by simp [bAll]
theorem bAll_snoc {α : Type} (b : α → List Int) (l : List α) (x : α) : bAll b (l ++ [x]) = bAll b l ++ b x := by simp [bAll]
section
variable {α : Type} {ok iv : α → Prop} {b : α → List Int} {n : Nat} {s s0 st st' : RS} {xs : List α} {x : α}
theorem LI.zero : LI ok iv b n s [] s := ⟨fun h => ⟨h, by simp, by simp [bAll]⟩, fun ys r h _ _ e => ⟨h, by simpa using e⟩, rfl, by simp⟩
theorem LI.next (hp : PF ok b) (h : LI ok iv b n s xs st) (hl : xs.length < n) (hx : RdR ok iv b st x st') : LI ok iv b n s (xs ++ [x]) st' := by
  refine ⟨fun k => ?_, fun ys r hs hy hn he => ?_, by rw [hx.tot, h.tot], fun y hy => ?_⟩
  · obtain ⟨a1, a2, a3⟩ := hx.snd k
    obtain ⟨c1, c2, c3⟩ := h.snd a1
    refine ⟨c1, fun y hy => ?_, by rw [c3, a3, bAll_snoc, List.append_assoc]⟩
    rcases List.mem_append.1 hy with hy | hy
    · exact c2 y hy
    · simp at hy; subst hy; exact a2
  · obtain ⟨g1, g2⟩ := h.cmp ys r hs hy hn he
    have hlt : xs.length < ys.length := by omega
    rw [List.drop_eq_getElem_cons hlt, bAll_cons, List.append_assoc] at g2
    have hyo := hy _ (List.getElem_mem hlt)
    have k := hx.cmp _ _ g1 hyo g2
    obtain ⟨a1, a2, a3⟩ := hx.snd k
    obtain ⟨_, e⟩ := hp _ _ _ _ a2 hyo (a3.symm.trans g2)
    exact ⟨k, by rw [e]; simp⟩
  · rcases List.mem_append.1 hy with hy | hy
    · exact h.iv y hy
    · simp at hy; subst hy; exact hx.iv
def okL (ok : α → Prop) (most : Nat) (v : List α) : Prop := v.length ≤ most ∧ ∀ x ∈ v, ok x
def bList (b : α → List Int) (v : List α) : List Int := bNum (v.length : Int) ++ bAll b v
theorem LI.done {most : Nat} (hm : most ≤ 4096) (h0 : RdR (rNum (most : Int)) (rNum (most : Int)) bNum s0 (n : Int) s) (h : LI ok iv b n s xs st) (hl : xs.length ≤ n) (hd : xs.length = n ∨ st.bad = true) : RdR (okL ok most) (okL iv most) (bList b) s0 xs st := by
  have hn := h0.iv
  unfold rNum at hn
  refine ⟨fun k => ?_, fun ys r hs hy he => ?_, by rw [h.tot, h0.tot], by omega, h.iv⟩
  · obtain ⟨a1, a2, a3⟩ := h.snd k
    obtain ⟨c1, c2, c3⟩ := h0.snd a1
    have hx : xs.length = n := hd.resolve_right (by rw [k]; simp)
    exact ⟨c1, ⟨by omega, a2⟩, by rw [c3, a3, bList, List.append_assoc, hx]⟩
  · have hy1 := hy.1
    unfold bList at he
    rw [List.append_assoc] at he
    have hr : rNum (most : Int) (ys.length : Int) := by unfold rNum; omega
    have g1 := h0.cmp _ _ hs hr he
    obtain ⟨c1, c2, c3⟩ := h0.snd g1
    obtain ⟨e1, e2⟩ := pf_num (most := (most : Int)) (by omega) _ _ _ _ c2 hr (c3.symm.trans he)
    exact (h.cmp ys r g1 hy.2 (by omega) e2).1
end
end Go.SL
set_option linter.unusedVariables false
set_option linter.unusedSimpArgs false
namespace Go.SL
open Go Go.Proofs
theorem one_cell {α : Type} {R : Rep α} {x : α} {l : List Value} {L : List HP} (h : Knows L (fun M => R.rep M x l)) : Knows L (fun M => CellsOf M R [x] l) := h.mono fun M h => ⟨l, [], h, rfl, by simp⟩
structure LsS (α : Type) where
  xs : List α
  s : RS
  A : Option Addr
  c : Nat
abbrev capC (bx b : Nat) : HP := cells bx [.pointer (some ⟨b, 0, none⟩)] 66
theorem vector1_spec {L : List HP} {b bx : Nat} {s : RS} (hn : s.n + s.b.length ≤ 140737488355328) : Fn Tryz.prog 70 #[.pointer (some ⟨bx, 0, none⟩)] (rdr b s :: capC bx b :: L) (fun v L' => ∃ x s', v = .int .i64 x ∧ L' = rdr b s' :: capC bx b :: L ∧ RdR (rNum 2147483647) (rNum 2147483647) bNum s x s') := by
  refine Fn_enter Tryz.func70 rfl rfl rfl rfl ?_
  refine T_region ?_
  refine TL_y rfl rfl (Y_assign rfl) ?_
  refine TL_nil ?_
  refine T_region ?_
  refine TL_y rfl rfl (Y_load rfl rfl) ?_
  refine TL_call rfl rfl (number_spec 2147483647 (by decide) hn) ?_
  rintro _ _ ⟨x, s1, rfl, rfl, h⟩
  refine TL_y rfl rfl (Y_assign rfl) ?_
  refine TL_nil ?_
  refine T_ret ?_
  exact RetG_1 (.inl rfl) rfl (ResV.tmp rfl) GivesTo.g (⟨x, s1, rfl, rfl, h⟩)
theorem list_int_spec {L : List HP} {b bx : Nat} {s : RS} (most : Nat) (hmost : most ≤ 4096) (hn : s.n + s.b.length ≤ 140737488355328) : Fn Tryz.prog 69 #[.pointer (some ⟨b, 0, none⟩), .int .i64 (most : Int), .func (.func 70) #[] #[.pointer (some ⟨bx, 0, none⟩)]] (rdr b s :: capC bx b :: L) (fun v L' => ∃ xs A c s', v = .slice A xs.length c ∧ L' = sl (intR .i64) A c xs :: rdr b s' :: capC bx b :: L ∧ RdR (okL (rNum 2147483647) most) (okL (rNum 2147483647) most) (bList bNum) s xs s') := by
  refine Fn_enter Tryz.func69 rfl rfl rfl rfl ?_
  refine T_region ?_
  refine TL_y rfl rfl (Y_assign rfl) ?_
  refine TL_nil ?_
  refine T_region ?_
  refine TL_y rfl rfl (Y_assign rfl) ?_
  refine TL_nil ?_
  refine T_seq ?_
  refine T_region ?_
  refine TL_y rfl rfl (Y_move rfl) ?_
  refine TL_y rfl rfl (Y_move rfl) ?_
  refine TL_call rfl rfl (number_spec (most : Int) (by omega) hn) ?_
  rintro _ _ ⟨x0, s0, rfl, rfl, h0⟩
  obtain ⟨m, rfl⟩ : ∃ m : Nat, x0 = (m : Int) := ⟨x0.toNat, by have := h0.iv; unfold rNum at this; omega⟩
  have hm := h0.iv
  unfold rNum at hm
  have htot := h0.tot
  refine TL_y rfl rfl (Y_assign rfl) ?_
  refine TL_nil ?_
  refine T_block ?_
  refine T_loopK (σ := LsS Int) [0, 2] (fun g => g.xs.length ≤ m ∧ LI (rNum 2147483647) (rNum 2147483647) bNum m s0 g.xs g.s) (fun g kv => (8, .int .i64 ((m : Int) - (g.xs.length : Int))) :: (7, .slice g.A g.xs.length g.c) :: kv) (fun g => osl (intR .i64) 3 g.A g.c g.xs :: rdr b g.s :: capC bx b :: L) (fun g => m - g.xs.length) (⟨[], s0, none, 0⟩) rfl (⟨Nat.zero_le _, LI.zero⟩) (osl_nil _ _ _ _) (sub_cons (by show some (Value.int .i64 (m : Int)) = some (Value.int .i64 ((m : Int) - (([] : List Int).length : Int))); simp) (sub_cons rfl (sub_cons rfl (sub_cons rfl (sub_nil))))) ?_
  rintro ⟨xs, st, A, c⟩ ⟨hl, hli⟩
  dsimp only at hl hli ⊢
  have htot2 := hli.tot
  refine T_seq ?_
  refine T_region ?_
  refine TL_y rfl rfl (Y_move rfl) ?_
  refine TL_y rfl rfl (Y_gt rfl rfl) ?_
  refine TL_y rfl rfl (Y_move rfl) ?_
  refine TL_splitd 14 rfl (fun h14 => ?_) (fun h14 => ?_)
  · refine TL_grun rfl rfl ?_
    refine TL_y rfl rfl (Y_move rfl) ?_
    refine TL_grun rfl rfl ?_
    refine TL_y rfl rfl (Y_nil_check rfl) ?_
    refine TL_grun rfl rfl ?_
    refine TL_y rfl rfl (Y_field_addr rfl) ?_
    refine TL_grun rfl rfl ?_
    refine TL_y rfl rfl (Y_load_rdr rfl) ?_
    refine TL_grun rfl rfl ?_
    refine TL_y rfl rfl (Y_not rfl) ?_
    refine TL_y rfl rfl (Y_pick_t rfl rfl) ?_
    refine TL_nil ?_
    refine T_cond rfl (fun h20 => ?_) (fun h20 => ?_)
    · refine T_skip ?_
      refine thenS_normal ?_
      refine T_seq ?_
      refine T_block ?_
      refine T_region_last ?_
      refine TL_y rfl rfl (Y_move rfl) ?_
      refine TL_y rfl rfl (Y_move rfl) ?_
      refine TL_pullc bx ?_
      refine TL_pullk b ?_
      refine TL_call_fn rfl rfl rfl (vector1_spec (by omega)) ?_
      rintro _ _ ⟨x, s2, rfl, rfl, hx⟩
      refine TL_build_slice rfl rfl rfl rfl rfl rfl ?_
      intro b26
      have hxv := hx.iv
      unfold rNum at hxv
      refine TL_osl (k := 1) (intR .i64) [x] (one_cell (Knows.const fun M => ⟨rfl, i64In_mk (by omega)⟩)) rfl (by decide) ?_
      refine TL_freeze_osl ?_
      refine TL_name 26 (v' := .slice (some ⟨b26, 0, none⟩) [x].length 1) rfl rfl ?_
      refine TL_append rfl rfl rfl rfl rfl slk (by simp only [List.length_cons, List.length_nil]; omega) ?_
      intro A27 c27
      refine TL_y rfl rfl (Y_assign rfl) ?_
      refine TL_nil ?_
      refine inB_normal ?_
      refine thenS_normal ?_
      refine T_region_last ?_
      refine TL_y rfl rfl (Y_move rfl) ?_
      refine TL_y rfl rfl (Y_sub rfl rfl (by omega)) ?_
      refine TL_name 22 (v' := .int .i64 ((m : Int) - ((xs ++ [x]).length : Int))) rfl (by congr 1; simp; omega) ?_
      refine TL_y rfl rfl (Y_assign rfl) ?_
      refine TL_nil ?_
      refine thenS_normal ?_
      exact ⟨⟨xs ++ [x], s2, A27, c27⟩, ⟨by simp only [List.length_append, List.length_cons, List.length_nil]; omega, hli.next (pf_num (by decide)) (by omega) hx⟩, by simp only [List.length_append, List.length_cons, List.length_nil]; omega, holds_to (sub_cons rfl (sub_cons rfl (sub_cons rfl (sub_cons rfl (sub_nil))))) GivesTo.g⟩
    · refine T_exit ?_
      refine thenS_exit ?_
      refine thenS_exit ?_
      refine inB_hit ?_
      refine thenS_normal ?_
      have hd : xs.length = m ∨ st.bad = true := .inr (by simpa using h20)
      refine T_pullo A c ?_
      refine T_freeze_osl ?_
      refine T_region ?_
      refine TL_y rfl rfl (Y_move rfl) ?_
      refine TL_y rfl rfl (Y_assign rfl) ?_
      refine TL_nil ?_
      refine T_ret ?_
      exact RetG_1 (.inl rfl) rfl (ResV.tmp rfl) GivesTo.g (⟨xs, A, c, st, rfl, rfl, hli.done hmost h0 hl hd⟩)
  · refine TL_gskip rfl rfl rfl rfl ?_
    refine TL_gskip rfl rfl rfl rfl ?_
    refine TL_gskip rfl rfl rfl rfl ?_
    refine TL_gskip rfl rfl rfl rfl ?_
    refine TL_gskip rfl rfl rfl rfl ?_
    refine TL_y rfl rfl (Y_pick_f rfl rfl) ?_
    refine TL_nil ?_
    refine T_cond_false rfl ?_
    refine T_exit ?_
    refine thenS_exit ?_
    refine thenS_exit ?_
    refine inB_hit ?_
    refine thenS_normal ?_
    have hd : xs.length = m ∨ st.bad = true := .inl (by omega)
    refine T_pullo A c ?_
    refine T_freeze_osl ?_
    refine T_region ?_
    refine TL_y rfl rfl (Y_move rfl) ?_
    refine TL_y rfl rfl (Y_assign rfl) ?_
    refine TL_nil ?_
    refine T_ret ?_
    exact RetG_1 (.inl rfl) rfl (ResV.tmp rfl) GivesTo.g (⟨xs, A, c, st, rfl, rfl, hli.done hmost h0 hl hd⟩)
theorem vecR {s s1 : RS} {v : List Int} (h : RdR (okL (rNum 2147483647) 7) (okL (rNum 2147483647) 7) (bList bNum) s v s1) : RdR rVec (okL (rNum 2147483647) 7) bVec s v ⟨s1.b, s1.n, s1.bad || lastZero v⟩ := by
  refine ⟨fun k => ?_, fun y r hs hy he => ?_, h.tot, h.iv⟩
  · simp only [Bool.or_eq_false_iff] at k
    obtain ⟨a1, a2, a3⟩ := h.snd k.1
    exact ⟨a1, ⟨a2.2, a2.1, k.2⟩, a3⟩
  · have g := h.cmp y r hs ⟨hy.2.1, hy.1⟩ he
    obtain ⟨a1, a2, a3⟩ := h.snd g
    have e := a3.symm.trans he
    unfold bList bVec at e
    rw [List.append_assoc, List.append_assoc] at e
    have h1 := a2.1; have h2 := hy.2.1
    obtain ⟨e1, _⟩ := pf_list (pf_num (most := 2147483647) (by decide)) (by omega) (by omega) a2.2 hy.1 e
    subst e1
    simp only [g, hy.2.2, Bool.or_false]
theorem T_addr_c {α : Type} {R : Rep α} {A : Option Addr} {c : Nat} {xs : List α} {L : List HP} {r : Option Nat} {n : Nat} {P : Program} {D : List Deferred} {E : Env} {Q : Exit → St → Prop} {c' : Code} (hk : SlN L R A c xs) (h : ∀ b o, (xs ≠ [] → A = some ⟨b, o, none⟩) → T r n P c' ⟨D, E, L⟩ Q) : T r n P c' ⟨D, E, L⟩ Q := by
  cases xs with
  | nil => exact h 0 0 (fun k => absurd rfl k)
  | cons x xs => exact T_addr_n (j := 0) (u := x) hk rfl fun b o e => h b o (fun _ => e)
theorem rvector_spec {L : List HP} {b : Nat} {s : RS} (hn : s.n + s.b.length ≤ 140737488355328) : Fn Tryz.prog 45 #[.pointer (some ⟨b, 0, none⟩)] (rdr b s :: L) (fun v L' => ∃ xs A c s', v = .slice A xs.length c ∧ L' = sl (intR .i64) A c xs :: rdr b s' :: L ∧ RdR rVec (okL (rNum 2147483647) 7) bVec s xs s') := by
  refine Fn_enter Tryz.func45 rfl rfl rfl rfl ?_
  refine T_region ?_
  refine TL_box rfl rfl rfl ?_
  intro b1
  refine TL_y rfl rfl (Y_assign rfl) ?_
  refine TL_nil ?_
  refine T_region ?_
  refine TL_y rfl rfl (Y_load rfl rfl) ?_
  refine TL_y rfl rfl (Y_make_func rfl rfl) ?_
  refine TL_pullc b1 ?_
  refine TL_pullk b ?_
  refine TL_call rfl rfl (list_int_spec 7 (by decide) hn) ?_
  rintro _ _ ⟨v, A6, c6, s1, rfl, rfl, h⟩
  have hv := vecR h
  have hlen := h.iv.1
  refine TL_y rfl rfl (Y_assign rfl) ?_
  refine TL_nil ?_
  refine T_addr_c (sln (A := A6) (c := c6)) fun bq oq hA => ?_
  refine T_pullk b ?_
  refine T_rdr fun Ar cr => ?_
  refine T_region_draw _ [0, 0, 2, 6, 14, 30, 62, 126, 254, 510, 1022, 1022, 3070, 7166, 16382, 32766, 65534, 131070, 262142, 524287, 1048575, 2097151] [21] [(0, true), (1, true), (2, true), (3, true), (4, true), (5, true), (6, true), (7, true), (8, true), (9, true), (10, true), (11, true), (12, true), (13, true), (14, true), (15, true), (16, true), (17, true), (18, true), (19, true), (20, true), (21, false)] (by kernel_rfl) (by decide +kernel) (Gives.refl _) ?_
  refine TF_y rfl rfl (Y_load rfl rfl) ?_
  refine TF_y rfl rfl (Y_load rfl rfl) ?_
  refine TF_y rfl rfl (Y_nil_check rfl) ?_
  refine TF_y rfl rfl (Y_field_addr rfl) ?_
  refine TF_y rfl rfl (Y_load rfl rfl) ?_
  refine TF_y rfl rfl (Y_move rfl) ?_
  refine TF_split 12 rfl (fun h12 => ?_) (fun h12 => ?_)
  · refine TF_gskip rfl rfl rfl rfl rfl ?_
    refine TF_gskip rfl rfl rfl rfl rfl ?_
    refine TF_gskip rfl rfl rfl rfl rfl ?_
    refine TF_gskip rfl rfl rfl rfl rfl ?_
    refine TF_gskip_u rfl rfl rfl rfl ?_
    refine TF_gskip_u rfl rfl rfl rfl ?_
    refine TF_gskip_u rfl rfl rfl rfl ?_
    refine TF_gskip_u rfl rfl rfl rfl ?_
    refine TF_gskip_u rfl rfl rfl rfl ?_
    refine TF_gskip_u rfl rfl rfl rfl ?_
    refine TF_gskip_u rfl rfl rfl rfl ?_
    refine TF_gskip rfl rfl rfl rfl rfl ?_
    refine TF_y rfl rfl (Y_pick_t rfl rfl) ?_
    refine TF_name 25 (v' := .bool (s1.bad || lastZero v)) rfl (by rw [h12]; rfl) ?_
    refine TF_y rfl rfl (Y_nil_check rfl) ?_
    refine TF_y rfl rfl (Y_field_addr rfl) ?_
    refine TF_anchor rfl ?_
    refine TL_store rfl rfl rfl rfl rfl rfl ?_
    refine TF_end_tail rfl ?_
    refine TF_nil ?_
    refine T_region ?_
    refine TL_y rfl rfl (Y_move rfl) ?_
    refine TL_y rfl rfl (Y_assign rfl) ?_
    refine TL_nil ?_
    refine T_ret ?_
    refine RetQ.gives (rdr_close b ⟨s1.b, s1.n, s1.bad || lastZero v⟩ slk) ?_
    exact RetG_1 (.inl rfl) rfl (ResV.tmp rfl) GivesTo.g (⟨v, A6, c6, _, rfl, rfl, hv⟩)
  · refine TF_gy rfl rfl rfl rfl (Y_move rfl) ?_
    refine TF_gy rfl rfl rfl rfl (Y_len rfl) ?_
    refine TF_gy rfl rfl rfl rfl (Y_gt rfl rfl) ?_
    refine TF_gy rfl rfl rfl rfl (Y_move rfl) ?_
    refine TF_splitd 16 rfl (fun h16 => ?_) (fun h16 => ?_)
    · refine TF_gy rfl rfl rfl rfl (Y_move rfl) ?_
      refine TF_gy rfl rfl rfl rfl (Y_move rfl) ?_
      refine TF_gy rfl rfl rfl rfl (Y_len rfl) ?_
      refine TF_gy rfl rfl rfl rfl (Y_sub rfl rfl (by omega)) ?_
      refine TF_name 20 (v' := .int .i64 ((v.length - 1 : Nat) : Int)) rfl (by congr 1; omega) ?_
      have hne : v ≠ [] := fun e => by rw [e] at h16; simp at h16
      obtain ⟨q, hq⟩ : ∃ q, v[v.length - 1]? = some q := ⟨_, List.getElem?_eq_getElem (by omega)⟩
      refine TF_gy rfl rfl rfl rfl (Y_index_n (R := intR .i64) (xs := v) (b := bq) (o := oq) (by rw [← hA hne]; rfl) rfl rfl hq) ?_
      refine TF_gy rfl rfl rfl rfl (Y_load_n (R := intR .i64) (c := c6) (xs := v) (q := 0) rfl (by rw [← hA hne]; exact sln) hq rfl) ?_
      refine TF_gy rfl rfl rfl rfl (Y_eq rfl rfl) ?_
      refine TF_gy rfl rfl rfl rfl (Y_pick_t rfl rfl) ?_
      refine TF_y rfl rfl (Y_pick_f rfl rfl) ?_
      refine TF_name 25 (v' := .bool (s1.bad || lastZero v)) rfl (by rw [h12, show lastZero v = decide (q = 0) by unfold lastZero; rw [hq]; simp; omega]; rfl) ?_
      refine TF_y rfl rfl (Y_nil_check rfl) ?_
      refine TF_y rfl rfl (Y_field_addr rfl) ?_
      refine TF_anchor rfl ?_
      refine TL_store rfl rfl rfl rfl rfl rfl ?_
      refine TF_end_tail rfl ?_
      refine TF_nil ?_
      refine T_region ?_
      refine TL_y rfl rfl (Y_move rfl) ?_
      refine TL_y rfl rfl (Y_assign rfl) ?_
      refine TL_nil ?_
      refine T_ret ?_
      refine RetQ.gives (rdr_close b ⟨s1.b, s1.n, s1.bad || lastZero v⟩ slk) ?_
      exact RetG_1 (.inl rfl) rfl (ResV.tmp rfl) GivesTo.g (⟨v, A6, c6, _, rfl, rfl, hv⟩)
    · refine TF_gskip rfl rfl rfl rfl rfl ?_
      refine TF_gskip rfl rfl rfl rfl rfl ?_
      refine TF_gskip rfl rfl rfl rfl rfl ?_
      refine TF_gskip rfl rfl rfl rfl rfl ?_
      refine TF_gskip rfl rfl rfl rfl rfl ?_
      refine TF_gskip rfl rfl rfl rfl rfl ?_
      refine TF_gskip rfl rfl rfl rfl rfl ?_
      refine TF_gy rfl rfl rfl rfl (Y_pick_f rfl rfl) ?_
      refine TF_y rfl rfl (Y_pick_f rfl rfl) ?_
      refine TF_name 25 (v' := .bool (s1.bad || lastZero v)) rfl (by rw [h12, show lastZero v = false by unfold lastZero; rw [decide_eq_false]; omega]; rfl) ?_
      refine TF_y rfl rfl (Y_nil_check rfl) ?_
      refine TF_y rfl rfl (Y_field_addr rfl) ?_
      refine TF_anchor rfl ?_
      refine TL_store rfl rfl rfl rfl rfl rfl ?_
      refine TF_end_tail rfl ?_
      refine TF_nil ?_
      refine T_region ?_
      refine TL_y rfl rfl (Y_move rfl) ?_
      refine TL_y rfl rfl (Y_assign rfl) ?_
      refine TL_nil ?_
      refine T_ret ?_
      refine RetQ.gives (rdr_close b ⟨s1.b, s1.n, s1.bad || lastZero v⟩ slk) ?_
      exact RetG_1 (.inl rfl) rfl (ResV.tmp rfl) GivesTo.g (⟨v, A6, c6, _, rfl, rfl, hv⟩)
end Go.SL
set_option linter.unusedVariables false
set_option linter.unusedSimpArgs false
namespace Go.SL
open Go Go.Proofs
theorem rballot_spec {L : List HP} {b : Nat} {s : RS} (hn : s.n + s.b.length ≤ 140737488355328) : Fn Tryz.prog 41 #[.pointer (some ⟨b, 0, none⟩)] (rdr b s :: L) (fun v L' => ∃ x s', v = pairV x ∧ L' = rdr b s' :: L ∧ RdR rBal rBal bBal s x s') := by
  refine Fn_enter Tryz.func41 rfl rfl rfl rfl ?_
  refine T_region ?_
  refine TL_alloc rfl rfl ?_
  intro b2
  refine TL_nil ?_
  refine T_region ?_
  refine TL_y rfl rfl (Y_move rfl) ?_
  refine TL_pullk b ?_
  refine TL_call rfl rfl (number_spec 2147483647 (by decide) hn) ?_
  rintro _ _ ⟨x0, s0, rfl, rfl, h0⟩
  have ht0 := h0.tot
  refine TL_y rfl rfl (Y_assign rfl) ?_
  refine TL_nil ?_
  refine T_region ?_
  refine TL_y rfl rfl (Y_move rfl) ?_
  refine TL_y rfl rfl (Y_move rfl) ?_
  refine TL_pullk b ?_
  refine TL_call rfl rfl (number_spec 6 (by decide) (by omega)) ?_
  rintro _ _ ⟨x1, s1, rfl, rfl, h1⟩
  refine TL_y rfl rfl (Y_build rfl rfl) ?_
  refine TL_store rfl rfl rfl rfl rfl rfl ?_
  refine TL_nil ?_
  refine T_ret ?_
  exact RetG_1 (.inl rfl) rfl (ResV.agg rfl rfl) GivesTo.g (⟨(x0, x1), s1, rfl, rfl, h0.seq (pf_num (by decide)) h1⟩)
theorem sealR {s s0 s1 s2 s3 : RS} {x0 x1 : ByteArray} {x2 : Int} {x3 : List Int} (h0 : RdR isName (fun x => x.size ≤ 32) txt s x0 s0) (h1 : RdR isName (fun x => x.size ≤ 32) txt s0 x1 s1) (h2 : RdR (rNum 2147483647) (rNum 2147483647) bNum s1 x2 s2) (h3 : RdR rVec (okL (rNum 2147483647) 7) bVec s2 x3 s3) : RdR rSeal orderOk' bSeal s ⟨x0, x1, x2, x3⟩ s3 :=
  (h0.seq pf_name (h1.seq pf_name (h2.seq (pf_num (by decide)) h3))).map (ok2 := rSeal) (iv2 := orderOk') (b2 := bSeal) (fun p => (⟨p.1, p.2.1, p.2.2.1, p.2.2.2⟩ : OrderD)) (fun x => (x.token, (x.cart, (x.epoch, x.cut)))) rfl (fun y => Iff.rfl) (fun y => rfl) (fun ⟨a, b, c, d⟩ => by
    have h := d.1
    unfold rNum at c
    dsimp only at a b c h
    exact ⟨by simp only [maxEl]; omega, by simp only [maxEl]; omega, i64In_mk (by show -9223372036854775808 ≤ x2 ∧ x2 ≤ 9223372036854775807; omega), by show x3.length ≤ _; omega⟩)
theorem rseal_spec {L : List HP} {b : Nat} {s : RS} (hn : s.n + s.b.length ≤ 140737488355328) : Fn Tryz.prog 68 #[.pointer (some ⟨b, 0, none⟩)] (rdr b s :: L) (fun v L' => ∃ x A c s', v = .agg (List.toArray (orderC x (A, c))) ∧ L' = sl (intR .i64) A c x.cut :: rdr b s' :: L ∧ RdR rSeal orderOk' bSeal s x s') := by
  refine Fn_enter Tryz.func68 rfl rfl rfl rfl ?_
  refine T_region ?_
  refine TL_alloc rfl rfl ?_
  intro b2
  refine TL_nil ?_
  refine T_region ?_
  refine TL_y rfl rfl (Y_move rfl) ?_
  refine TL_pullk b ?_
  refine TL_call rfl rfl (rname_spec hn) ?_
  rintro _ _ ⟨x0, s0, rfl, rfl, h0⟩
  have ht0 := h0.tot
  refine TL_y rfl rfl (Y_build rfl rfl) ?_
  refine TL_alloc rfl rfl ?_
  intro b3
  refine TL_store rfl rfl rfl rfl rfl rfl ?_
  refine TL_nil ?_
  refine T_region ?_
  refine TL_y rfl rfl (Y_move rfl) ?_
  refine TL_pullk b ?_
  refine TL_call rfl rfl (rname_spec (by omega)) ?_
  rintro _ _ ⟨x1, s1, rfl, rfl, h1⟩
  have ht1 := h1.tot
  refine TL_y rfl rfl (Y_field_addr rfl) ?_
  refine TL_store rfl rfl rfl rfl rfl rfl ?_
  refine TL_nil ?_
  refine T_region ?_
  refine TL_y rfl rfl (Y_move rfl) ?_
  refine TL_pullk b ?_
  refine TL_call rfl rfl (number_spec 2147483647 (by decide) (by omega)) ?_
  rintro _ _ ⟨x2, s2, rfl, rfl, h2⟩
  have ht2 := h2.tot
  refine TL_y rfl rfl (Y_field_addr rfl) ?_
  refine TL_store rfl rfl rfl rfl rfl rfl ?_
  refine TL_nil ?_
  refine T_region ?_
  refine TL_y rfl rfl (Y_move rfl) ?_
  refine TL_pullk b ?_
  refine TL_call rfl rfl (rvector_spec (by omega)) ?_
  rintro _ _ ⟨x3, A3, c3, s3, rfl, rfl, h3⟩
  refine TL_y rfl rfl (Y_field_addr rfl) ?_
  refine TL_store rfl rfl rfl rfl rfl rfl ?_
  refine TL_nil ?_
  refine T_region ?_
  refine TL_y rfl rfl (Y_load_agg rfl rfl) ?_
  refine TL_store rfl rfl rfl rfl rfl rfl ?_
  refine TL_nil ?_
  refine T_ret ?_
  exact RetG_1 (.inl rfl) rfl (ResV.agg rfl rfl) GivesTo.g (⟨⟨x0, x1, x2, x3⟩, A3, c3, s3, rfl, rfl, sealR h0 h1 h2 h3⟩)
def entryIv (e : EntryD) : Prop := orderOk' e.order
theorem entryR_t {s s0 : RS} (h0 : RdR (fun _ : Bool => True) (fun _ => True) bTruth s true s0) : RdR rEntry entryIv bEntry s ⟨true, ⟨⟨#[]⟩, ⟨#[]⟩, 0, []⟩⟩ s0 := by
  refine ⟨fun k => ?_, fun y r hs hy he => ?_, h0.tot, ?_⟩
  · obtain ⟨a1, _, a3⟩ := h0.snd k
    exact ⟨a1, by decide, by simpa [bEntry] using a3⟩
  · unfold bEntry at he
    rw [List.append_assoc] at he
    exact h0.cmp _ _ hs trivial he
  · unfold entryIv orderOk'; decide
theorem entryR_f {s s0 s1 : RS} {o : OrderD} (h0 : RdR (fun _ : Bool => True) (fun _ => True) bTruth s false s0) (h1 : RdR rSeal orderOk' bSeal s0 o s1) : RdR rEntry entryIv bEntry s ⟨false, o⟩ s1 := by
  refine ⟨fun k => ?_, fun y r hs hy he => ?_, by rw [h1.tot, h0.tot], h1.iv⟩
  · obtain ⟨c1, c2, c3⟩ := h1.snd k
    obtain ⟨a1, _, a3⟩ := h0.snd c1
    exact ⟨a1, by unfold rEntry; simpa using c2, by rw [a3, c3]; simp [bEntry]⟩
  · unfold bEntry at he
    rw [List.append_assoc] at he
    have g := h0.cmp _ _ hs trivial he
    obtain ⟨a1, _, a3⟩ := h0.snd g
    obtain ⟨e1, e2⟩ := pf_truth (a3.symm.trans he)
    unfold rEntry at hy
    rw [← e1] at hy e2
    exact h1.cmp y.order r g (by simpa using hy) (by simpa using e2)
theorem rentry_spec {L : List HP} {b : Nat} {s : RS} (hn : s.n + s.b.length ≤ 140737488355328) : Fn Tryz.prog 42 #[.pointer (some ⟨b, 0, none⟩)] (rdr b s :: L) (fun v L' => ∃ x A c s', v = .agg (List.toArray (entryC x (A, c))) ∧ L' = sl (intR .i64) A c x.order.cut :: rdr b s' :: L ∧ RdR rEntry entryIv bEntry s x s') := by
  refine Fn_enter Tryz.func42 rfl rfl rfl rfl ?_
  refine T_region ?_
  refine TL_alloc rfl rfl ?_
  intro b2
  refine TL_nil ?_
  refine T_seq ?_
  refine T_region ?_
  refine TL_y rfl rfl (Y_move rfl) ?_
  refine TL_pullk b ?_
  refine TL_call rfl rfl (rtruth_spec hn) ?_
  rintro _ _ ⟨x0, s0, rfl, rfl, h0⟩
  have ht0 := h0.tot
  refine TL_nil ?_
  refine T_cond rfl (fun h4 => ?_) (fun h4 => ?_)
  · refine T_region ?_
    refine TL_y rfl rfl (Y_build rfl rfl) ?_
    refine TL_store rfl rfl rfl rfl rfl rfl ?_
    refine TL_nil ?_
    refine T_ret ?_
    refine thenS_ret ?_
    rw [h4] at h0
    refine RetQ.gives (slnil (A := none) (c := 0) (R := intR .i64)).lay ?_
    exact RetG_1 (.inl rfl) rfl (ResV.agg rfl rfl) GivesTo.g (⟨_, none, 0, s0, rfl, rfl, entryR_t h0⟩)
  · refine T_skip ?_
    refine thenS_normal ?_
    refine T_region ?_
    refine TL_y rfl rfl (Y_move rfl) ?_
    refine TL_pullk b ?_
    refine TL_call rfl rfl (rseal_spec (by omega)) ?_
    rintro _ _ ⟨x1, A1, c1, s1, rfl, rfl, h1⟩
    refine TL_y rfl rfl (Y_build rfl rfl) ?_
    refine TL_store rfl rfl rfl rfl rfl rfl ?_
    refine TL_nil ?_
    refine T_ret ?_
    rw [h4] at h0
    exact RetG_1 (.inl rfl) rfl (ResV.agg rfl rfl) GivesTo.g (⟨⟨false, x1⟩, A1, c1, s1, rfl, rfl, entryR_f h0 h1⟩)
theorem eventRd {s s0 s1 s2 s3 s4 s5 s6 s7 : RS} {x0 x1 x4 x6 : Int} {x2 : List Int} {x3 x5 : ByteArray} {x7 : Bool} (h0 : RdR (rNum 6) (rNum 6) bNum s x0 s0) (h1 : RdR (rNum 2147483647) (rNum 2147483647) bNum s0 x1 s1) (h2 : RdR rVec (okL (rNum 2147483647) 7) bVec s1 x2 s2) (h3 : RdR isName (fun x => x.size ≤ 32) txt s2 x3 s3) (h4 : RdR (rNum 2147483647) (rNum 2147483647) bNum s3 x4 s4) (h5 : RdR isName (fun x => x.size ≤ 32) txt s4 x5 s5) (h6 : RdR (rNum 1000) (rNum 1000) bNum s5 x6 s6) (h7 : RdR (fun _ : Bool => True) (fun _ => True) bTruth s6 x7 s7) : RdR rEvent eventOk bEvent s ⟨(x0, x1), x2, x3, x4, x5, x6, x7⟩ s7 :=
  (h0.seq (pf_num (by decide)) (h1.seq (pf_num (by decide)) (h2.seq pf_vec (h3.seq pf_name (h4.seq (pf_num (by decide)) (h5.seq pf_name (h6.seq (pf_num (by decide)) h7))))))).map (ok2 := rEvent) (iv2 := eventOk) (b2 := bEvent) (fun p => (⟨(p.1, p.2.1), p.2.2.1, p.2.2.2.1, p.2.2.2.2.1, p.2.2.2.2.2.1, p.2.2.2.2.2.2.1, p.2.2.2.2.2.2.2⟩ : EventD)) (fun x => (x.dot.1, (x.dot.2, (x.deps, (x.cart, (x.epoch, (x.sku, (x.qty, x.clears)))))))) rfl (fun y => by unfold rEvent; simp) (fun y => rfl) (fun ⟨a, b, c, d, e, f, g, _⟩ => by
    have h := c.1
    unfold rNum at a b e g
    dsimp only at a b d e f g h
    exact ⟨i64In_mk (by show -9223372036854775808 ≤ x0 ∧ x0 ≤ 9223372036854775807; omega), i64In_mk (by show -9223372036854775808 ≤ x1 ∧ x1 ≤ 9223372036854775807; omega), by show x2.length ≤ _; omega, by simp only [maxEl]; omega, i64In_mk (by show -9223372036854775808 ≤ x4 ∧ x4 ≤ 9223372036854775807; omega), by simp only [maxEl]; omega, i64In_mk (by show -9223372036854775808 ≤ x6 ∧ x6 ≤ 9223372036854775807; omega)⟩)
theorem revent_spec {L : List HP} {b : Nat} {s : RS} (hn : s.n + s.b.length ≤ 140737488355328) : Fn Tryz.prog 47 #[.pointer (some ⟨b, 0, none⟩)] (rdr b s :: L) (fun v L' => ∃ x A c s', v = .agg (List.toArray (eventC x (A, c))) ∧ L' = sl (intR .i64) A c x.deps :: rdr b s' :: L ∧ RdR rEvent eventOk bEvent s x s') := by
  refine Fn_enter Tryz.func47 rfl rfl rfl rfl ?_
  refine T_region ?_
  refine TL_alloc rfl rfl ?_
  intro b2
  refine TL_nil ?_
  refine T_region ?_
  refine TL_y rfl rfl (Y_build rfl rfl) ?_
  refine TL_alloc rfl rfl ?_
  intro b3
  refine TL_store rfl rfl rfl rfl rfl rfl ?_
  refine TL_nil ?_
  refine T_region ?_
  refine TL_y rfl rfl (Y_move rfl) ?_
  refine TL_pullk b ?_
  refine TL_call rfl rfl (number_spec 6 (by decide) hn) ?_
  rintro _ _ ⟨x0, s0, rfl, rfl, h0⟩
  have ht0 := h0.tot
  refine TL_y rfl rfl (Y_field_addr rfl) ?_
  refine TL_y rfl rfl (Y_field_addr rfl) ?_
  refine TL_store rfl rfl rfl rfl rfl rfl ?_
  refine TL_nil ?_
  refine T_region ?_
  refine TL_y rfl rfl (Y_move rfl) ?_
  refine TL_pullk b ?_
  refine TL_call rfl rfl (number_spec 2147483647 (by decide) (by omega)) ?_
  rintro _ _ ⟨x1, s1, rfl, rfl, h1⟩
  have ht1 := h1.tot
  refine TL_y rfl rfl (Y_field_addr rfl) ?_
  refine TL_y rfl rfl (Y_field_addr rfl) ?_
  refine TL_store rfl rfl rfl rfl rfl rfl ?_
  refine TL_nil ?_
  refine T_region ?_
  refine TL_y rfl rfl (Y_move rfl) ?_
  refine TL_pullk b ?_
  refine TL_call rfl rfl (rvector_spec (by omega)) ?_
  rintro _ _ ⟨x2, A2, c2, s2, rfl, rfl, h2⟩
  have ht2 := h2.tot
  refine TL_y rfl rfl (Y_field_addr rfl) ?_
  refine TL_store rfl rfl rfl rfl rfl rfl ?_
  refine TL_nil ?_
  refine T_region ?_
  refine TL_y rfl rfl (Y_move rfl) ?_
  refine TL_pullk b ?_
  refine TL_call rfl rfl (rname_spec (by omega)) ?_
  rintro _ _ ⟨x3, s3, rfl, rfl, h3⟩
  have ht3 := h3.tot
  refine TL_y rfl rfl (Y_field_addr rfl) ?_
  refine TL_store rfl rfl rfl rfl rfl rfl ?_
  refine TL_nil ?_
  refine T_region ?_
  refine TL_y rfl rfl (Y_move rfl) ?_
  refine TL_pullk b ?_
  refine TL_call rfl rfl (number_spec 2147483647 (by decide) (by omega)) ?_
  rintro _ _ ⟨x4, s4, rfl, rfl, h4⟩
  have ht4 := h4.tot
  refine TL_y rfl rfl (Y_field_addr rfl) ?_
  refine TL_store rfl rfl rfl rfl rfl rfl ?_
  refine TL_nil ?_
  refine T_region ?_
  refine TL_y rfl rfl (Y_move rfl) ?_
  refine TL_pullk b ?_
  refine TL_call rfl rfl (rname_spec (by omega)) ?_
  rintro _ _ ⟨x5, s5, rfl, rfl, h5⟩
  have ht5 := h5.tot
  refine TL_y rfl rfl (Y_field_addr rfl) ?_
  refine TL_store rfl rfl rfl rfl rfl rfl ?_
  refine TL_nil ?_
  refine T_region ?_
  refine TL_y rfl rfl (Y_move rfl) ?_
  refine TL_pullk b ?_
  refine TL_call rfl rfl (number_spec 1000 (by decide) (by omega)) ?_
  rintro _ _ ⟨x6, s6, rfl, rfl, h6⟩
  have ht6 := h6.tot
  refine TL_y rfl rfl (Y_field_addr rfl) ?_
  refine TL_store rfl rfl rfl rfl rfl rfl ?_
  refine TL_nil ?_
  refine T_region ?_
  refine TL_y rfl rfl (Y_move rfl) ?_
  refine TL_pullk b ?_
  refine TL_call rfl rfl (rtruth_spec (by omega)) ?_
  rintro _ _ ⟨x7, s7, rfl, rfl, h7⟩
  refine TL_y rfl rfl (Y_field_addr rfl) ?_
  refine TL_store rfl rfl rfl rfl rfl rfl ?_
  refine TL_nil ?_
  refine T_region ?_
  refine TL_y rfl rfl (Y_load_agg rfl rfl) ?_
  refine TL_store rfl rfl rfl rfl rfl rfl ?_
  refine TL_nil ?_
  refine T_ret ?_
  exact RetG_1 (.inl rfl) rfl (ResV.agg rfl rfl) GivesTo.g (⟨⟨(x0, x1), x2, x3, x4, x5, x6, x7⟩, A2, c2, s7, rfl, rfl, eventRd h0 h1 h2 h3 h4 h5 h6 h7⟩)
theorem votedRd {s s0 s1 s2 : RS} {x0 : Int} {x1 : Int × Int} {x2 : EntryD} (h0 : RdR (rNum 2147483647) (rNum 2147483647) bNum s x0 s0) (h1 : RdR rBal rBal bBal s0 x1 s1) (h2 : RdR rEntry entryIv bEntry s1 x2 s2) : RdR rVoted votedOk bVoted s ⟨x0, x1, x2⟩ s2 :=
  (h0.seq (pf_num (by decide)) (h1.seq pf_bal h2)).map (ok2 := rVoted) (iv2 := votedOk) (b2 := bVoted) (fun p => (⟨p.1, p.2.1, p.2.2⟩ : VotedD)) (fun x => (x.slot, (x.bal, x.en))) rfl (fun y => Iff.rfl) (fun y => rfl) (fun ⟨a, b, c⟩ => by
    obtain ⟨b1, b2⟩ := b
    unfold rNum at a b1 b2
    dsimp only at a b1 b2
    exact ⟨i64In_mk (by show -9223372036854775808 ≤ x0 ∧ x0 ≤ 9223372036854775807; omega), i64In_mk (by show -9223372036854775808 ≤ x1.1 ∧ x1.1 ≤ 9223372036854775807; omega), i64In_mk (by show -9223372036854775808 ≤ x1.2 ∧ x1.2 ≤ 9223372036854775807; omega), c⟩)
theorem rvoted_spec {L : List HP} {b : Nat} {s : RS} (hn : s.n + s.b.length ≤ 140737488355328) : Fn Tryz.prog 44 #[.pointer (some ⟨b, 0, none⟩)] (rdr b s :: L) (fun v L' => ∃ x A c s', v = .agg (List.toArray (votedC x (A, c))) ∧ L' = sl (intR .i64) A c x.en.order.cut :: rdr b s' :: L ∧ RdR rVoted votedOk bVoted s x s') := by
  refine Fn_enter Tryz.func44 rfl rfl rfl rfl ?_
  refine T_region ?_
  refine TL_alloc rfl rfl ?_
  intro b2
  refine TL_nil ?_
  refine T_region ?_
  refine TL_y rfl rfl (Y_move rfl) ?_
  refine TL_pullk b ?_
  refine TL_call rfl rfl (number_spec 2147483647 (by decide) hn) ?_
  rintro _ _ ⟨x0, s0, rfl, rfl, h0⟩
  have ht0 := h0.tot
  refine TL_y rfl rfl (Y_build rfl rfl) ?_
  refine TL_alloc rfl rfl ?_
  intro b3
  refine TL_store rfl rfl rfl rfl rfl rfl ?_
  refine TL_nil ?_
  refine T_region ?_
  refine TL_y rfl rfl (Y_move rfl) ?_
  refine TL_pullk b ?_
  refine TL_call rfl rfl (rballot_spec (by omega)) ?_
  rintro _ _ ⟨x1, s1, rfl, rfl, h1⟩
  have ht1 := h1.tot
  refine TL_y rfl rfl (Y_field_addr rfl) ?_
  refine TL_store rfl rfl rfl rfl rfl rfl ?_
  refine TL_nil ?_
  refine T_region ?_
  refine TL_y rfl rfl (Y_move rfl) ?_
  refine TL_pullk b ?_
  refine TL_call rfl rfl (rentry_spec (by omega)) ?_
  rintro _ _ ⟨x2, A2, c2, s2, rfl, rfl, h2⟩
  refine TL_y rfl rfl (Y_field_addr rfl) ?_
  refine TL_store rfl rfl rfl rfl rfl rfl ?_
  refine TL_nil ?_
  refine T_region ?_
  refine TL_y rfl rfl (Y_load_agg rfl rfl) ?_
  refine TL_store rfl rfl rfl rfl rfl rfl ?_
  refine TL_nil ?_
  refine T_ret ?_
  exact RetG_1 (.inl rfl) rfl (ResV.agg rfl rfl) GivesTo.g (⟨⟨x0, x1, x2⟩, A2, c2, s2, rfl, rfl, votedRd h0 h1 h2⟩)
theorem list_voted_spec {L : List HP} {b : Nat} {s : RS} (most : Nat) (hmost : most ≤ 4096) (hn : s.n + s.b.length ≤ 140737488355328) : Fn Tryz.prog 43 #[.pointer (some ⟨b, 0, none⟩), .int .i64 (most : Int), .func (.func 44) #[.pointer (some ⟨b, 0, none⟩)] #[]] (rdr b s :: L) (fun v L' => ∃ xs A c s', v = .slice A xs.length c ∧ L' = sl votedR A c xs :: rdr b s' :: L ∧ RdR (okL rVoted most) (okL votedOk most) (bList bVoted) s xs s') := by
  refine Fn_enter Tryz.func43 rfl rfl rfl rfl ?_
  refine T_region ?_
  refine TL_y rfl rfl (Y_assign rfl) ?_
  refine TL_nil ?_
  refine T_region ?_
  refine TL_y rfl rfl (Y_assign rfl) ?_
  refine TL_nil ?_
  refine T_seq ?_
  refine T_region ?_
  refine TL_y rfl rfl (Y_move rfl) ?_
  refine TL_y rfl rfl (Y_move rfl) ?_
  refine TL_call rfl rfl (number_spec (most : Int) (by omega) hn) ?_
  rintro _ _ ⟨x0, s0, rfl, rfl, h0⟩
  obtain ⟨m, rfl⟩ : ∃ m : Nat, x0 = (m : Int) := ⟨x0.toNat, by have := h0.iv; unfold rNum at this; omega⟩
  have hm := h0.iv
  unfold rNum at hm
  have htot := h0.tot
  refine TL_y rfl rfl (Y_assign rfl) ?_
  refine TL_nil ?_
  refine T_block ?_
  refine T_loopK (σ := LsS VotedD) [0, 2] (fun g => g.xs.length ≤ m ∧ LI rVoted votedOk bVoted m s0 g.xs g.s) (fun g kv => (8, .int .i64 ((m : Int) - (g.xs.length : Int))) :: (7, .slice g.A g.xs.length g.c) :: kv) (fun g => osl votedR 64 g.A g.c g.xs :: rdr b g.s :: L) (fun g => m - g.xs.length) (⟨[], s0, none, 0⟩) rfl (⟨Nat.zero_le _, LI.zero⟩) (osl_nil _ _ _ _) (sub_cons (by show some (Value.int .i64 (m : Int)) = some (Value.int .i64 ((m : Int) - (([] : List VotedD).length : Int))); simp) (sub_cons rfl (sub_cons rfl (sub_cons rfl (sub_nil))))) ?_
  rintro ⟨xs, st, A, c⟩ ⟨hl, hli⟩
  dsimp only at hl hli ⊢
  have htot2 := hli.tot
  refine T_seq ?_
  refine T_region ?_
  refine TL_y rfl rfl (Y_move rfl) ?_
  refine TL_y rfl rfl (Y_gt rfl rfl) ?_
  refine TL_y rfl rfl (Y_move rfl) ?_
  refine TL_splitd 14 rfl (fun h14 => ?_) (fun h14 => ?_)
  · refine TL_grun rfl rfl ?_
    refine TL_y rfl rfl (Y_move rfl) ?_
    refine TL_grun rfl rfl ?_
    refine TL_y rfl rfl (Y_nil_check rfl) ?_
    refine TL_grun rfl rfl ?_
    refine TL_y rfl rfl (Y_field_addr rfl) ?_
    refine TL_grun rfl rfl ?_
    refine TL_y rfl rfl (Y_load_rdr rfl) ?_
    refine TL_grun rfl rfl ?_
    refine TL_y rfl rfl (Y_not rfl) ?_
    refine TL_y rfl rfl (Y_pick_t rfl rfl) ?_
    refine TL_nil ?_
    refine T_cond rfl (fun h20 => ?_) (fun h20 => ?_)
    · refine T_skip ?_
      refine thenS_normal ?_
      refine T_seq ?_
      refine T_block ?_
      refine T_region_last ?_
      refine TL_y rfl rfl (Y_move rfl) ?_
      refine TL_y rfl rfl (Y_move rfl) ?_
      refine TL_pullk b ?_
      refine TL_call_fn rfl rfl rfl (rvoted_spec (by omega)) ?_
      rintro _ _ ⟨x, A25, c25, s2, rfl, rfl, hx⟩
      refine TL_build_slice rfl rfl rfl rfl rfl rfl ?_
      intro b26
      refine TL_osl (k := 1) votedR [x] (one_cell (ex_rep (A25, c25) (sep_sl slk) hx.iv)) rfl (by decide) ?_
      refine TL_freeze_osl ?_
      refine TL_name 26 (v' := .slice (some ⟨b26, 0, none⟩) [x].length 1) rfl rfl ?_
      refine TL_append rfl rfl rfl rfl rfl slk (by simp only [List.length_cons, List.length_nil]; omega) ?_
      intro A27 c27
      refine TL_y rfl rfl (Y_assign rfl) ?_
      refine TL_nil ?_
      refine inB_normal ?_
      refine thenS_normal ?_
      refine T_region_last ?_
      refine TL_y rfl rfl (Y_move rfl) ?_
      refine TL_y rfl rfl (Y_sub rfl rfl (by omega)) ?_
      refine TL_name 22 (v' := .int .i64 ((m : Int) - ((xs ++ [x]).length : Int))) rfl (by congr 1; simp; omega) ?_
      refine TL_y rfl rfl (Y_assign rfl) ?_
      refine TL_nil ?_
      refine thenS_normal ?_
      exact ⟨⟨xs ++ [x], s2, A27, c27⟩, ⟨by simp only [List.length_append, List.length_cons, List.length_nil]; omega, hli.next pf_voted (by omega) hx⟩, by simp only [List.length_append, List.length_cons, List.length_nil]; omega, holds_to (sub_cons rfl (sub_cons rfl (sub_cons rfl (sub_cons rfl (sub_nil))))) GivesTo.g⟩
    · refine T_exit ?_
      refine thenS_exit ?_
      refine thenS_exit ?_
      refine inB_hit ?_
      refine thenS_normal ?_
      have hd : xs.length = m ∨ st.bad = true := .inr (by simpa using h20)
      refine T_pullo A c ?_
      refine T_freeze_osl ?_
      refine T_region ?_
      refine TL_y rfl rfl (Y_move rfl) ?_
      refine TL_y rfl rfl (Y_assign rfl) ?_
      refine TL_nil ?_
      refine T_ret ?_
      exact RetG_1 (.inl rfl) rfl (ResV.tmp rfl) GivesTo.g (⟨xs, A, c, st, rfl, rfl, hli.done hmost h0 hl hd⟩)
  · refine TL_gskip rfl rfl rfl rfl ?_
    refine TL_gskip rfl rfl rfl rfl ?_
    refine TL_gskip rfl rfl rfl rfl ?_
    refine TL_gskip rfl rfl rfl rfl ?_
    refine TL_gskip rfl rfl rfl rfl ?_
    refine TL_y rfl rfl (Y_pick_f rfl rfl) ?_
    refine TL_nil ?_
    refine T_cond_false rfl ?_
    refine T_exit ?_
    refine thenS_exit ?_
    refine thenS_exit ?_
    refine inB_hit ?_
    refine thenS_normal ?_
    have hd : xs.length = m ∨ st.bad = true := .inl (by omega)
    refine T_pullo A c ?_
    refine T_freeze_osl ?_
    refine T_region ?_
    refine TL_y rfl rfl (Y_move rfl) ?_
    refine TL_y rfl rfl (Y_assign rfl) ?_
    refine TL_nil ?_
    refine T_ret ?_
    exact RetG_1 (.inl rfl) rfl (ResV.tmp rfl) GivesTo.g (⟨xs, A, c, st, rfl, rfl, hli.done hmost h0 hl hd⟩)
theorem list_event_spec {L : List HP} {b : Nat} {s : RS} (most : Nat) (hmost : most ≤ 4096) (hn : s.n + s.b.length ≤ 140737488355328) : Fn Tryz.prog 46 #[.pointer (some ⟨b, 0, none⟩), .int .i64 (most : Int), .func (.func 47) #[.pointer (some ⟨b, 0, none⟩)] #[]] (rdr b s :: L) (fun v L' => ∃ xs A c s', v = .slice A xs.length c ∧ L' = sl eventR A c xs :: rdr b s' :: L ∧ RdR (okL rEvent most) (okL eventOk most) (bList bEvent) s xs s') := by
  refine Fn_enter Tryz.func46 rfl rfl rfl rfl ?_
  refine T_region ?_
  refine TL_y rfl rfl (Y_assign rfl) ?_
  refine TL_nil ?_
  refine T_region ?_
  refine TL_y rfl rfl (Y_assign rfl) ?_
  refine TL_nil ?_
  refine T_seq ?_
  refine T_region ?_
  refine TL_y rfl rfl (Y_move rfl) ?_
  refine TL_y rfl rfl (Y_move rfl) ?_
  refine TL_call rfl rfl (number_spec (most : Int) (by omega) hn) ?_
  rintro _ _ ⟨x0, s0, rfl, rfl, h0⟩
  obtain ⟨m, rfl⟩ : ∃ m : Nat, x0 = (m : Int) := ⟨x0.toNat, by have := h0.iv; unfold rNum at this; omega⟩
  have hm := h0.iv
  unfold rNum at hm
  have htot := h0.tot
  refine TL_y rfl rfl (Y_assign rfl) ?_
  refine TL_nil ?_
  refine T_block ?_
  refine T_loopK (σ := LsS EventD) [0, 2] (fun g => g.xs.length ≤ m ∧ LI rEvent eventOk bEvent m s0 g.xs g.s) (fun g kv => (8, .int .i64 ((m : Int) - (g.xs.length : Int))) :: (7, .slice g.A g.xs.length g.c) :: kv) (fun g => osl eventR 85 g.A g.c g.xs :: rdr b g.s :: L) (fun g => m - g.xs.length) (⟨[], s0, none, 0⟩) rfl (⟨Nat.zero_le _, LI.zero⟩) (osl_nil _ _ _ _) (sub_cons (by show some (Value.int .i64 (m : Int)) = some (Value.int .i64 ((m : Int) - (([] : List EventD).length : Int))); simp) (sub_cons rfl (sub_cons rfl (sub_cons rfl (sub_nil))))) ?_
  rintro ⟨xs, st, A, c⟩ ⟨hl, hli⟩
  dsimp only at hl hli ⊢
  have htot2 := hli.tot
  refine T_seq ?_
  refine T_region ?_
  refine TL_y rfl rfl (Y_move rfl) ?_
  refine TL_y rfl rfl (Y_gt rfl rfl) ?_
  refine TL_y rfl rfl (Y_move rfl) ?_
  refine TL_splitd 14 rfl (fun h14 => ?_) (fun h14 => ?_)
  · refine TL_grun rfl rfl ?_
    refine TL_y rfl rfl (Y_move rfl) ?_
    refine TL_grun rfl rfl ?_
    refine TL_y rfl rfl (Y_nil_check rfl) ?_
    refine TL_grun rfl rfl ?_
    refine TL_y rfl rfl (Y_field_addr rfl) ?_
    refine TL_grun rfl rfl ?_
    refine TL_y rfl rfl (Y_load_rdr rfl) ?_
    refine TL_grun rfl rfl ?_
    refine TL_y rfl rfl (Y_not rfl) ?_
    refine TL_y rfl rfl (Y_pick_t rfl rfl) ?_
    refine TL_nil ?_
    refine T_cond rfl (fun h20 => ?_) (fun h20 => ?_)
    · refine T_skip ?_
      refine thenS_normal ?_
      refine T_seq ?_
      refine T_block ?_
      refine T_region_last ?_
      refine TL_y rfl rfl (Y_move rfl) ?_
      refine TL_y rfl rfl (Y_move rfl) ?_
      refine TL_pullk b ?_
      refine TL_call_fn rfl rfl rfl (revent_spec (by omega)) ?_
      rintro _ _ ⟨x, A25, c25, s2, rfl, rfl, hx⟩
      refine TL_build_slice rfl rfl rfl rfl rfl rfl ?_
      intro b26
      refine TL_osl (k := 1) eventR [x] (one_cell (ex_rep (A25, c25) (sep_sl slk) hx.iv)) rfl (by decide) ?_
      refine TL_freeze_osl ?_
      refine TL_name 26 (v' := .slice (some ⟨b26, 0, none⟩) [x].length 1) rfl rfl ?_
      refine TL_append rfl rfl rfl rfl rfl slk (by simp only [List.length_cons, List.length_nil]; omega) ?_
      intro A27 c27
      refine TL_y rfl rfl (Y_assign rfl) ?_
      refine TL_nil ?_
      refine inB_normal ?_
      refine thenS_normal ?_
      refine T_region_last ?_
      refine TL_y rfl rfl (Y_move rfl) ?_
      refine TL_y rfl rfl (Y_sub rfl rfl (by omega)) ?_
      refine TL_name 22 (v' := .int .i64 ((m : Int) - ((xs ++ [x]).length : Int))) rfl (by congr 1; simp; omega) ?_
      refine TL_y rfl rfl (Y_assign rfl) ?_
      refine TL_nil ?_
      refine thenS_normal ?_
      exact ⟨⟨xs ++ [x], s2, A27, c27⟩, ⟨by simp only [List.length_append, List.length_cons, List.length_nil]; omega, hli.next pf_event (by omega) hx⟩, by simp only [List.length_append, List.length_cons, List.length_nil]; omega, holds_to (sub_cons rfl (sub_cons rfl (sub_cons rfl (sub_cons rfl (sub_nil))))) GivesTo.g⟩
    · refine T_exit ?_
      refine thenS_exit ?_
      refine thenS_exit ?_
      refine inB_hit ?_
      refine thenS_normal ?_
      have hd : xs.length = m ∨ st.bad = true := .inr (by simpa using h20)
      refine T_pullo A c ?_
      refine T_freeze_osl ?_
      refine T_region ?_
      refine TL_y rfl rfl (Y_move rfl) ?_
      refine TL_y rfl rfl (Y_assign rfl) ?_
      refine TL_nil ?_
      refine T_ret ?_
      exact RetG_1 (.inl rfl) rfl (ResV.tmp rfl) GivesTo.g (⟨xs, A, c, st, rfl, rfl, hli.done hmost h0 hl hd⟩)
  · refine TL_gskip rfl rfl rfl rfl ?_
    refine TL_gskip rfl rfl rfl rfl ?_
    refine TL_gskip rfl rfl rfl rfl ?_
    refine TL_gskip rfl rfl rfl rfl ?_
    refine TL_gskip rfl rfl rfl rfl ?_
    refine TL_y rfl rfl (Y_pick_f rfl rfl) ?_
    refine TL_nil ?_
    refine T_cond_false rfl ?_
    refine T_exit ?_
    refine thenS_exit ?_
    refine thenS_exit ?_
    refine inB_hit ?_
    refine thenS_normal ?_
    have hd : xs.length = m ∨ st.bad = true := .inl (by omega)
    refine T_pullo A c ?_
    refine T_freeze_osl ?_
    refine T_region ?_
    refine TL_y rfl rfl (Y_move rfl) ?_
    refine TL_y rfl rfl (Y_assign rfl) ?_
    refine TL_nil ?_
    refine T_ret ?_
    exact RetG_1 (.inl rfl) rfl (ResV.tmp rfl) GivesTo.g (⟨xs, A, c, st, rfl, rfl, hli.done hmost h0 hl hd⟩)
end Go.SL
set_option linter.unusedVariables false
set_option linter.unusedSimpArgs false
namespace Go.SL
open Go Go.Proofs
theorem msgRd {s s0 s1 s2 s3 s4 s5 s6 s7 s8 s9 : RS} {x0 x1 x2 x4 x9 : Int} {x3 : Int × Int} {x5 : EntryD} {x6 : List VotedD} {x7 : List Int} {x8 : List EventD} (h0 : RdR (rNum 255) (rNum 255) bNum s x0 s0) (h1 : RdR (rNum 6) (rNum 6) bNum s0 x1 s1) (h2 : RdR (rNum 6) (rNum 6) bNum s1 x2 s2) (h3 : RdR rBal rBal bBal s2 x3 s3) (h4 : RdR (rNum 2147483647) (rNum 2147483647) bNum s3 x4 s4) (h5 : RdR rEntry entryIv bEntry s4 x5 s5) (h6 : RdR (okL rVoted 4096) (okL votedOk 4096) (bList bVoted) s5 x6 s6) (h7 : RdR rVec (okL (rNum 2147483647) 7) bVec s6 x7 s7) (h8 : RdR (okL rEvent 4096) (okL eventOk 4096) (bList bEvent) s7 x8 s8) (h9 : RdR (rNum 4611686018427387904) (rNum 4611686018427387904) bNum s8 x9 s9) : RdR rMsg MsgOk bMsg s ⟨x0, x1, x2, x3, x4, x5, x6, x7, x8, x9⟩ s9 :=
  have pv : PF (okL rVoted 4096) (bList bVoted) := fun v w r r' hv hw e => pf_list pf_voted hv.1 hw.1 hv.2 hw.2 (by unfold bList at e; rwa [List.append_assoc, List.append_assoc] at e)
  have pe : PF (okL rEvent 4096) (bList bEvent) := fun v w r r' hv hw e => pf_list pf_event hv.1 hw.1 hv.2 hw.2 (by unfold bList at e; rwa [List.append_assoc, List.append_assoc] at e)
  (h0.seq (pf_num (by decide)) (h1.seq (pf_num (by decide)) (h2.seq (pf_num (by decide)) (h3.seq pf_bal (h4.seq (pf_num (by decide)) (h5.seq pf_entry (h6.seq pv (h7.seq pf_vec (h8.seq pe h9))))))))).map (ok2 := rMsg) (iv2 := MsgOk) (b2 := bMsg)
    (fun p => (⟨p.1, p.2.1, p.2.2.1, p.2.2.2.1, p.2.2.2.2.1, p.2.2.2.2.2.1, p.2.2.2.2.2.2.1, p.2.2.2.2.2.2.2.1, p.2.2.2.2.2.2.2.2.1, p.2.2.2.2.2.2.2.2.2⟩ : MsgD)) (fun x => (x.kind, (x.frm, (x.to_, (x.bal, (x.slot, (x.en, (x.voted, (x.seen, (x.events, x.time)))))))))) rfl (fun y => Iff.rfl) (fun y => by simp [bMsg, bList])
    (fun ⟨a, b, c, d, e, f, g, h, i, j⟩ => by
      obtain ⟨d1, d2⟩ := d
      unfold rNum at a b c d1 d2 e j
      dsimp only at a b c d1 d2 e f j
      exact ⟨i64In_mk (by show -9223372036854775808 ≤ x0 ∧ x0 ≤ 9223372036854775807; omega), i64In_mk (by show -9223372036854775808 ≤ x1 ∧ x1 ≤ 9223372036854775807; omega), i64In_mk (by show -9223372036854775808 ≤ x2 ∧ x2 ≤ 9223372036854775807; omega), i64In_mk (by show -9223372036854775808 ≤ x3.1 ∧ x3.1 ≤ 9223372036854775807; omega), i64In_mk (by show -9223372036854775808 ≤ x3.2 ∧ x3.2 ≤ 9223372036854775807; omega), i64In_mk (by show -9223372036854775808 ≤ x4 ∧ x4 ≤ 9223372036854775807; omega), f, i64In_mk (by show -9223372036854775808 ≤ x9 ∧ x9 ≤ 9223372036854775807; omega)⟩)
abbrev mL (m : MsgD) (p : MsgP) (L : List HP) : List HP := sl (intR .i64) p.cut.1 p.cut.2 m.en.order.cut :: sl votedR p.voted.1 p.voted.2 m.voted :: sl (intR .i64) p.seen.1 p.seen.2 m.seen :: sl eventR p.events.1 p.events.2 m.events :: L
theorem rmsg_spec {L : List HP} {b : Nat} {s : RS} (hn : s.n + s.b.length ≤ 140737488355328) : Fn Tryz.prog 22 #[.pointer (some ⟨b, 0, none⟩)] (rdr b s :: L) (fun v L' => ∃ x p s', v = msgV x p ∧ L' = mL x p (rdr b s' :: L) ∧ RdR rMsg MsgOk bMsg s x s') := by
  refine Fn_enter Tryz.func22 rfl rfl rfl rfl ?_
  refine T_region ?_
  refine TL_alloc rfl rfl ?_
  intro b2
  refine TL_nil ?_
  refine T_region ?_
  refine TL_y rfl rfl (Y_move rfl) ?_
  refine TL_pullk b ?_
  refine TL_call rfl rfl (number_spec 255 (by decide) hn) ?_
  rintro _ _ ⟨x0, s0, rfl, rfl, h0⟩
  have ht0 := h0.tot
  refine TL_y rfl rfl (Y_build rfl rfl) ?_
  refine TL_alloc rfl rfl ?_
  intro b3
  refine TL_store rfl rfl rfl rfl rfl rfl ?_
  refine TL_nil ?_
  refine T_region ?_
  refine TL_y rfl rfl (Y_move rfl) ?_
  refine TL_pullk b ?_
  refine TL_call rfl rfl (number_spec 6 (by decide) (by omega)) ?_
  rintro _ _ ⟨x1, s1, rfl, rfl, h1⟩
  have ht1 := h1.tot
  refine TL_y rfl rfl (Y_field_addr rfl) ?_
  refine TL_store rfl rfl rfl rfl rfl rfl ?_
  refine TL_nil ?_
  refine T_region ?_
  refine TL_y rfl rfl (Y_move rfl) ?_
  refine TL_pullk b ?_
  refine TL_call rfl rfl (number_spec 6 (by decide) (by omega)) ?_
  rintro _ _ ⟨x2, s2, rfl, rfl, h2⟩
  have ht2 := h2.tot
  refine TL_y rfl rfl (Y_field_addr rfl) ?_
  refine TL_store rfl rfl rfl rfl rfl rfl ?_
  refine TL_nil ?_
  refine T_region ?_
  refine TL_y rfl rfl (Y_move rfl) ?_
  refine TL_pullk b ?_
  refine TL_call rfl rfl (rballot_spec (by omega)) ?_
  rintro _ _ ⟨x3, s3, rfl, rfl, h3⟩
  have ht3 := h3.tot
  refine TL_y rfl rfl (Y_field_addr rfl) ?_
  refine TL_store rfl rfl rfl rfl rfl rfl ?_
  refine TL_nil ?_
  refine T_region ?_
  refine TL_y rfl rfl (Y_move rfl) ?_
  refine TL_pullk b ?_
  refine TL_call rfl rfl (number_spec 2147483647 (by decide) (by omega)) ?_
  rintro _ _ ⟨x4, s4, rfl, rfl, h4⟩
  have ht4 := h4.tot
  refine TL_y rfl rfl (Y_field_addr rfl) ?_
  refine TL_store rfl rfl rfl rfl rfl rfl ?_
  refine TL_nil ?_
  refine T_region ?_
  refine TL_y rfl rfl (Y_move rfl) ?_
  refine TL_pullk b ?_
  refine TL_call rfl rfl (rentry_spec (by omega)) ?_
  rintro _ _ ⟨x5, A5, c5, s5, rfl, rfl, h5⟩
  have ht5 := h5.tot
  refine TL_y rfl rfl (Y_field_addr rfl) ?_
  refine TL_store rfl rfl rfl rfl rfl rfl ?_
  refine TL_nil ?_
  refine T_region ?_
  refine TL_y rfl rfl (Y_move rfl) ?_
  refine TL_y rfl rfl (Y_move rfl) ?_
  refine TL_y rfl rfl (Y_make_func rfl rfl) ?_
  refine TL_pullk b ?_
  refine TL_call rfl rfl (list_voted_spec 4096 (by decide) (by omega)) ?_
  rintro _ _ ⟨x6, A6, c6, s6, rfl, rfl, h6⟩
  have ht6 := h6.tot
  refine TL_y rfl rfl (Y_field_addr rfl) ?_
  refine TL_store rfl rfl rfl rfl rfl rfl ?_
  refine TL_nil ?_
  refine T_region ?_
  refine TL_y rfl rfl (Y_move rfl) ?_
  refine TL_pullk b ?_
  refine TL_call rfl rfl (rvector_spec (by omega)) ?_
  rintro _ _ ⟨x7, A7, c7, s7, rfl, rfl, h7⟩
  have ht7 := h7.tot
  refine TL_y rfl rfl (Y_field_addr rfl) ?_
  refine TL_store rfl rfl rfl rfl rfl rfl ?_
  refine TL_nil ?_
  refine T_region ?_
  refine TL_y rfl rfl (Y_move rfl) ?_
  refine TL_y rfl rfl (Y_move rfl) ?_
  refine TL_y rfl rfl (Y_make_func rfl rfl) ?_
  refine TL_pullk b ?_
  refine TL_call rfl rfl (list_event_spec 4096 (by decide) (by omega)) ?_
  rintro _ _ ⟨x8, A8, c8, s8, rfl, rfl, h8⟩
  have ht8 := h8.tot
  refine TL_y rfl rfl (Y_field_addr rfl) ?_
  refine TL_store rfl rfl rfl rfl rfl rfl ?_
  refine TL_nil ?_
  refine T_region ?_
  refine TL_y rfl rfl (Y_move rfl) ?_
  refine TL_pullk b ?_
  refine TL_call rfl rfl (number_spec 4611686018427387904 (by decide) (by omega)) ?_
  rintro _ _ ⟨x9, s9, rfl, rfl, h9⟩
  refine TL_y rfl rfl (Y_field_addr rfl) ?_
  refine TL_store rfl rfl rfl rfl rfl rfl ?_
  refine TL_nil ?_
  refine T_region ?_
  refine TL_y rfl rfl (Y_load_agg rfl rfl) ?_
  refine TL_store rfl rfl rfl rfl rfl rfl ?_
  refine TL_nil ?_
  refine T_ret ?_
  exact RetG_1 (.inl rfl) rfl (ResV.agg rfl rfl) GivesTo.g (⟨⟨x0, x1, x2, x3, x4, x5, x6, x7, x8, x9⟩, ⟨(A5, c5), (A6, c6), (A7, c7), (A8, c8)⟩, s9, rfl, rfl, msgRd h0 h1 h2 h3 h4 h5 h6 h7 h8 h9⟩)
abbrev msg0 : MsgD := ⟨0, 0, 0, (0, 0), 0, ⟨false, ⟨⟨#[]⟩, ⟨#[]⟩, 0, []⟩⟩, [], [], [], 0⟩
theorem msg0_ok : MsgOk msg0 := ⟨by decide, by decide, by decide, by decide, by decide, by decide, by unfold orderOk'; decide, by decide⟩
def rs0 (bs : List Int) : RS := ⟨bs, 0, false⟩
/-- What reading a whole message comes to. -/
def MsgRes (bs : List Int) (m : MsgD) (e : Int) : Prop := ∃ x s', RdR rMsg MsgOk bMsg (rs0 bs) x s' ∧ ((e = 0 ∧ m = x ∧ s'.bad = false ∧ s'.b = [] ∧ bs.length ≤ 65536) ∨ (e = 10 ∧ (s'.bad = true ∨ s'.b ≠ [] ∨ 65536 < bs.length)))
end Go.SL
set_option linter.unusedVariables false
set_option linter.unusedSimpArgs false
namespace Go.SL
open Go Go.Proofs
theorem refTo_spec (L : List HP) (n most : Int) : Fn Tryz.prog 81 #[.int .i64 n, .int .i64 most] L (fun v L' => v = .bool (decide (rNum most n)) ∧ L' = L) := by
  refine Fn_enter Tryz.func81 rfl rfl rfl rfl ?_
  refine T_region ?_
  refine TL_y rfl rfl (Y_assign rfl) ?_
  refine TL_nil ?_
  refine T_region ?_
  refine TL_y rfl rfl (Y_move rfl) ?_
  refine TL_both 6 11 (rNum most n) ?_ ?_
  · refine TL_y rfl rfl (Y_ge rfl rfl) ?_
    refine TL_y rfl rfl (Y_move rfl) ?_
    refine TL_splitd 7 rfl (fun h7 => ?_) (fun h7 => ?_)
    · refine TL_grun rfl rfl ?_
      refine TL_y rfl rfl (Y_move rfl) ?_
      refine TL_grun rfl rfl ?_
      refine TL_y rfl rfl (Y_move rfl) ?_
      refine TL_grun rfl rfl ?_
      refine TL_y rfl rfl (Y_le rfl rfl) ?_
      refine TL_y rfl rfl (Y_pick_t rfl rfl) ?_
      refine TL_chain_end rfl ?_ (by repeat (first | exact sub_refl | refine sub_ext rfl ?_)) GivesTo.g
      exact congrArg Value.bool (decide_eq_decide.2 (by unfold rNum; omega))
    · refine TL_gskip rfl rfl rfl rfl ?_
      refine TL_gskip rfl rfl rfl rfl ?_
      refine TL_gskip rfl rfl rfl rfl ?_
      refine TL_y rfl rfl (Y_pick_f rfl rfl) ?_
      refine TL_chain_end rfl ?_ (by repeat (first | exact sub_refl | refine sub_ext rfl ?_)) GivesTo.g
      exact congrArg Value.bool (decide_eq_false (by unfold rNum; omega)).symm
  refine TL_y rfl rfl (Y_assign rfl) ?_
  refine TL_nil ?_
  refine T_ret ?_
  exact RetG_1 (.inl rfl) rfl (ResV.tmp rfl) GivesTo.g (⟨rfl, rfl⟩)
theorem refVector_spec {L : List HP} {A : Option Addr} {c : Nat} {xs : List Int} (hk : SlK L (intR .i64) A c xs) : Fn Tryz.prog 55 #[.slice A xs.length c] L (fun v L' => v = .bool (decide (rVec xs)) ∧ L' = L) := by
  refine Fn_enter Tryz.func55 rfl rfl rfl rfl ?_
  refine T_gives hk.lay ?_
  refine hk.tail.lens fun hl => ?_
  simp only [maxEl] at hl
  refine T_region ?_
  refine TL_y rfl rfl (Y_assign rfl) ?_
  refine TL_nil ?_
  refine T_seq ?_
  refine T_region ?_
  refine TL_y rfl rfl (Y_assign rfl) ?_
  refine TL_nil ?_
  refine T_block ?_
  refine T_loopK (σ := Nat) [0] (fun i => i ≤ xs.length ∧ ∀ n ∈ xs.take i, rNum 2147483647 n) (fun i kv => (3, .int .i64 (i : Int)) :: kv) (fun i => sl (intR .i64) A c xs :: L) (fun i => xs.length - i) (0) rfl (⟨Nat.zero_le _, by simp⟩) (GivesTo.g) (sub_cons rfl (sub_cons rfl (sub_nil))) ?_
  intro i hi
  refine T_seq ?_
  refine T_region ?_
  refine TL_y rfl rfl (Y_move rfl) ?_
  refine TL_y rfl rfl (Y_move rfl) ?_
  refine TL_y rfl rfl (Y_len rfl) ?_
  refine TL_y rfl rfl (Y_lt rfl rfl) ?_
  refine TL_nil ?_
  refine T_if rfl (fun h7 => ?_) (fun h7 => ?_)
  · refine T_skip ?_
    refine thenS_normal ?_
    refine T_seq ?_
    refine T_block ?_
    refine T_region ?_
    refine TL_y rfl rfl (Y_move rfl) ?_
    refine TL_y rfl rfl (Y_move rfl) ?_
    obtain ⟨u, hu⟩ : ∃ u, xs[i]? = some u := ⟨_, List.getElem?_eq_getElem (by omega)⟩
    refine TL_index_int rfl rfl rfl slk hu ?_
    intro hi12 bi12 oi12
    refine TL_y rfl rfl (Y_load_row rfl rfl) ?_
    refine TL_call rfl rfl (refTo_spec _ _ _) ?_
    rintro _ _ ⟨rfl, rfl⟩
    refine TL_y rfl rfl (Y_not_d rfl) ?_
    refine TL_nil ?_
    refine T_if rfl (fun h15 => ?_) (fun h15 => ?_)
    · refine T_region ?_
      refine TL_y rfl rfl (Y_assign rfl) ?_
      refine TL_nil ?_
      refine T_ret ?_
      refine inB_ret ?_
      refine thenS_ret ?_
      refine thenS_ret ?_
      refine inB_ret ?_
      refine thenS_ret ?_
      exact RetG_1 (.inl rfl) rfl (ResV.tmp rfl) GivesTo.g (⟨by rw [decide_eq_false]; intro h; exact h15 (h.1 u (List.mem_of_getElem? hu)), rfl⟩)
    · refine T_skip ?_
      refine inB_normal ?_
      refine thenS_normal ?_
      refine T_region_last ?_
      refine TL_y rfl rfl (Y_move rfl) ?_
      refine TL_y rfl rfl (Y_add rfl rfl (by omega)) ?_
      refine TL_name 9 (v' := .int .i64 ((i + 1 : Nat) : Int)) rfl (rfl) ?_
      refine TL_y rfl rfl (Y_assign rfl) ?_
      refine TL_nil ?_
      refine thenS_normal ?_
      exact ⟨i + 1, ⟨by omega, by rw [take_at hu]; intro n hn; rcases List.mem_append.1 hn with h | h; exact hi.2 n h; (simp at h; subst h; exact Classical.not_not.1 h15)⟩, by omega, holds_to (sub_cons rfl (sub_cons rfl (sub_nil))) GivesTo.g⟩
  · refine T_exit ?_
    refine thenS_exit ?_
    refine thenS_exit ?_
    refine inB_hit ?_
    refine thenS_normal ?_
    refine T_region ?_
    refine TL_y rfl rfl (Y_move rfl) ?_
    refine TL_y rfl rfl (Y_len rfl) ?_
    refine TL_both 15 32 (xs.length ≤ 7 ∧ lastZero xs = false) ?_ ?_
    · refine TL_y rfl rfl (Y_le rfl rfl) ?_
      refine TL_y rfl rfl (Y_move rfl) ?_
      refine TL_splitd 19 rfl (fun h19 => ?_) (fun h19 => ?_)
      · refine TL_grun rfl rfl ?_
        refine TL_y rfl rfl (Y_move rfl) ?_
        refine TL_grun rfl rfl ?_
        refine TL_y rfl rfl (Y_len rfl) ?_
        refine TL_grun rfl rfl ?_
        refine TL_y rfl rfl (Y_eq rfl rfl) ?_
        refine TL_grun rfl rfl ?_
        refine TL_y rfl rfl (Y_move rfl) ?_
        refine TL_splitd 23 rfl (fun h23 => ?_) (fun h23 => ?_)
        · refine TL_gskip rfl rfl rfl rfl ?_
          refine TL_gskip rfl rfl rfl rfl ?_
          refine TL_gskip rfl rfl rfl rfl ?_
          refine TL_gskip rfl rfl rfl rfl ?_
          refine TL_gskip rfl rfl rfl rfl ?_
          refine TL_gskip rfl rfl rfl rfl ?_
          refine TL_gskip rfl rfl rfl rfl ?_
          refine TL_grun rfl rfl ?_
          refine TL_y rfl rfl (Y_pick_t rfl rfl) ?_
          refine TL_y rfl rfl (Y_pick_t rfl rfl) ?_
          refine TL_chain_end rfl ?_ (by repeat (first | exact sub_refl | refine sub_ext rfl ?_)) GivesTo.g
          exact congrArg Value.bool (decide_eq_true (by simp [lastZero]; omega)).symm
        · refine TL_grun rfl rfl ?_
          refine TL_y rfl rfl (Y_move rfl) ?_
          refine TL_grun rfl rfl ?_
          refine TL_y rfl rfl (Y_move rfl) ?_
          refine TL_grun rfl rfl ?_
          refine TL_y rfl rfl (Y_len rfl) ?_
          refine TL_grun rfl rfl ?_
          refine TL_y rfl rfl (Y_sub rfl rfl (by omega)) ?_
          refine TL_name 27 (v' := .int .i64 ((xs.length - 1 : Nat) : Int)) rfl (by congr 1; omega) ?_
          refine TL_grun rfl rfl ?_
          obtain ⟨q, hq⟩ : ∃ q, xs[xs.length - 1]? = some q := ⟨_, List.getElem?_eq_getElem (by omega)⟩
          refine TL_index_int rfl rfl rfl slk hq ?_
          intro hi28 bi28 oi28
          refine TL_grun rfl rfl ?_
          refine TL_y rfl rfl (Y_load_row rfl rfl) ?_
          refine TL_grun rfl rfl ?_
          refine TL_y rfl rfl (Y_ne rfl rfl) ?_
          refine TL_grun rfl rfl ?_
          refine TL_y rfl rfl (Y_pick_f rfl rfl) ?_
          refine TL_y rfl rfl (Y_pick_t rfl rfl) ?_
          refine TL_chain_end rfl ?_ (by repeat (first | exact sub_refl | refine sub_ext rfl ?_)) GivesTo.g
          exact congrArg Value.bool (decide_eq_decide.2 (by simp [lastZero, hq]; omega))
      · refine TL_gskip rfl rfl rfl rfl ?_
        refine TL_gskip rfl rfl rfl rfl ?_
        refine TL_gskip rfl rfl rfl rfl ?_
        refine TL_gskip rfl rfl rfl rfl ?_
        refine TL_gskip_u rfl rfl rfl ?_
        refine TL_gskip_u rfl rfl rfl ?_
        refine TL_gskip_u rfl rfl rfl ?_
        refine TL_gskip_u rfl rfl rfl ?_
        refine TL_gskip_u rfl rfl rfl ?_
        refine TL_gskip_u rfl rfl rfl ?_
        refine TL_gskip_u rfl rfl rfl ?_
        refine TL_gskip rfl rfl rfl rfl ?_
        refine TL_y rfl rfl (Y_pick_f rfl rfl) ?_
        refine TL_chain_end rfl ?_ (by repeat (first | exact sub_refl | refine sub_ext rfl ?_)) GivesTo.g
        exact congrArg Value.bool (decide_eq_false (by simp [lastZero]; omega)).symm
    refine TL_y rfl rfl (Y_assign rfl) ?_
    refine TL_nil ?_
    refine T_ret ?_
    have hall : ∀ n ∈ xs, rNum 2147483647 n := by have := hi.2; rwa [List.take_of_length_le (by omega)] at this
    exact RetG_1 (.inl rfl) rfl (ResV.tmp rfl) GivesTo.g (⟨by rw [decide_eq_decide.2 (show rVec xs ↔ xs.length ≤ 7 ∧ lastZero xs = false from ⟨fun h => h.2, fun h => ⟨hall, h⟩⟩)], rfl⟩)
theorem rightSeal_spec {L : List HP} {A : Option Addr} {c : Nat} (x : OrderD) (hx : orderOk' x) (hk : SlK L (intR .i64) A c x.cut) : Fn Tryz.prog 103 #[.agg (List.toArray (orderC x (A, c)))] L (fun v L' => v = .bool (decide (rSeal x)) ∧ L' = L) := by
  refine Fn_enter Tryz.func103 rfl rfl rfl rfl ?_
  refine T_gives hk.lay ?_
  refine T_region ?_
  refine TL_box rfl rfl rfl ?_
  intro b1
  refine TL_y rfl rfl (Y_assign rfl) ?_
  refine TL_nil ?_
  refine T_region ?_
  refine TL_y rfl rfl (Y_field_addr rfl) ?_
  refine TL_y rfl rfl (Y_load rfl rfl) ?_
  refine TL_call rfl rfl (refName_spec _ x.token hx.1) ?_
  rintro _ _ ⟨rfl, rfl⟩
  refine TL_both 15 20 (rSeal x) ?_ ?_
  · refine TL_y rfl rfl (Y_move rfl) ?_
    refine TL_splitd 6 rfl (fun h6 => ?_) (fun h6 => ?_)
    · refine TL_grun rfl rfl ?_
      refine TL_y rfl rfl (Y_field_addr rfl) ?_
      refine TL_grun rfl rfl ?_
      refine TL_y rfl rfl (Y_load rfl rfl) ?_
      refine TL_grun rfl rfl ?_
      refine TL_call rfl rfl (refName_spec _ x.cart hx.2.1) ?_
      rintro _ _ ⟨rfl, rfl⟩
      refine TL_y rfl rfl (Y_pick_t rfl rfl) ?_
      refine TL_y rfl rfl (Y_move rfl) ?_
      refine TL_splitd 11 rfl (fun h11 => ?_) (fun h11 => ?_)
      · refine TL_grun rfl rfl ?_
        refine TL_y rfl rfl (Y_field_addr rfl) ?_
        refine TL_grun rfl rfl ?_
        refine TL_y rfl rfl (Y_load rfl rfl) ?_
        refine TL_grun rfl rfl ?_
        refine TL_call rfl rfl (refTo_spec _ x.epoch 2147483647) ?_
        rintro _ _ ⟨rfl, rfl⟩
        refine TL_y rfl rfl (Y_pick_t rfl rfl) ?_
        refine TL_y rfl rfl (Y_move rfl) ?_
        refine TL_splitd 16 rfl (fun h16 => ?_) (fun h16 => ?_)
        · refine TL_grun rfl rfl ?_
          refine TL_y rfl rfl (Y_field_addr rfl) ?_
          refine TL_grun rfl rfl ?_
          refine TL_y rfl rfl (Y_load rfl rfl) ?_
          refine TL_grun rfl rfl ?_
          refine TL_call rfl rfl (refVector_spec slk) ?_
          rintro _ _ ⟨rfl, rfl⟩
          refine TL_y rfl rfl (Y_pick_t rfl rfl) ?_
          refine TL_chain_end rfl ?_ (by repeat (first | exact sub_refl | refine sub_ext rfl ?_)) GivesTo.g
          exact congrArg Value.bool (decide_eq_decide.2 (by simp [rSeal, *]))
        · refine TL_gskip rfl rfl rfl rfl ?_
          refine TL_gskip rfl rfl rfl rfl ?_
          refine TL_gskip rfl rfl rfl rfl ?_
          refine TL_y rfl rfl (Y_pick_f rfl rfl) ?_
          refine TL_chain_end rfl ?_ (by repeat (first | exact sub_refl | refine sub_ext rfl ?_)) GivesTo.g
          exact congrArg Value.bool (decide_eq_false (by simp [rSeal, *])).symm
      · refine TL_gskip rfl rfl rfl rfl ?_
        refine TL_gskip rfl rfl rfl rfl ?_
        refine TL_gskip rfl rfl rfl rfl ?_
        refine TL_y rfl rfl (Y_pick_f rfl rfl) ?_
        refine TL_y rfl rfl (Y_move rfl) ?_
        refine TL_gskip rfl rfl rfl rfl ?_
        refine TL_gskip rfl rfl rfl rfl ?_
        refine TL_gskip rfl rfl rfl rfl ?_
        refine TL_y rfl rfl (Y_pick_f rfl rfl) ?_
        refine TL_chain_end rfl ?_ (by repeat (first | exact sub_refl | refine sub_ext rfl ?_)) GivesTo.g
        exact congrArg Value.bool (decide_eq_false (by simp [rSeal, *])).symm
    · refine TL_gskip rfl rfl rfl rfl ?_
      refine TL_gskip rfl rfl rfl rfl ?_
      refine TL_gskip rfl rfl rfl rfl ?_
      refine TL_y rfl rfl (Y_pick_f rfl rfl) ?_
      refine TL_y rfl rfl (Y_move rfl) ?_
      refine TL_gskip rfl rfl rfl rfl ?_
      refine TL_gskip rfl rfl rfl rfl ?_
      refine TL_gskip rfl rfl rfl rfl ?_
      refine TL_y rfl rfl (Y_pick_f rfl rfl) ?_
      refine TL_y rfl rfl (Y_move rfl) ?_
      refine TL_gskip rfl rfl rfl rfl ?_
      refine TL_gskip rfl rfl rfl rfl ?_
      refine TL_gskip rfl rfl rfl rfl ?_
      refine TL_y rfl rfl (Y_pick_f rfl rfl) ?_
      refine TL_chain_end rfl ?_ (by repeat (first | exact sub_refl | refine sub_ext rfl ?_)) GivesTo.g
      exact congrArg Value.bool (decide_eq_false (by simp [rSeal, *])).symm
  refine TL_y rfl rfl (Y_assign rfl) ?_
  refine TL_nil ?_
  refine T_ret ?_
  exact RetG_1 (.inl rfl) rfl (ResV.tmp rfl) GivesTo.g (⟨rfl, rfl⟩)
theorem rightEntry_spec {L : List HP} {A : Option Addr} {c : Nat} (e : EntryD) (hx : orderOk' e.order) (hk : SlK L (intR .i64) A c e.order.cut) : Fn Tryz.prog 85 #[.agg (List.toArray (entryC e (A, c)))] L (fun v L' => v = .bool (decide (rEntry e)) ∧ L' = L) := by
  refine Fn_enter Tryz.func85 rfl rfl rfl rfl ?_
  refine T_gives hk.lay ?_
  refine T_region ?_
  refine TL_box rfl rfl rfl ?_
  intro b1
  refine TL_y rfl rfl (Y_assign rfl) ?_
  refine TL_nil ?_
  refine T_seq ?_
  refine T_region ?_
  refine TL_y rfl rfl (Y_field_addr rfl) ?_
  refine TL_y rfl rfl (Y_load rfl rfl) ?_
  refine TL_nil ?_
  refine T_cond rfl (fun h4 => ?_) (fun h4 => ?_)
  · refine T_region ?_
    refine TL_y rfl rfl (Y_field_addr rfl) ?_
    refine TL_y rfl rfl (Y_field_addr rfl) ?_
    refine TL_y rfl rfl (Y_load rfl rfl) ?_
    refine TL_both 20 27 (someSeal e.order = false) ?_ ?_
    · refine TL_y rfl rfl (Y_str_eq rfl rfl) ?_
      refine TL_y rfl rfl (Y_move rfl) ?_
      refine TL_splitd 9 rfl (fun h9 => ?_) (fun h9 => ?_)
      · refine TL_grun rfl rfl ?_
        refine TL_y rfl rfl (Y_field_addr rfl) ?_
        refine TL_grun rfl rfl ?_
        refine TL_y rfl rfl (Y_field_addr rfl) ?_
        refine TL_grun rfl rfl ?_
        refine TL_y rfl rfl (Y_load rfl rfl) ?_
        refine TL_grun rfl rfl ?_
        refine TL_y rfl rfl (Y_str_eq rfl rfl) ?_
        refine TL_y rfl rfl (Y_pick_t rfl rfl) ?_
        refine TL_y rfl rfl (Y_move rfl) ?_
        refine TL_splitd 15 rfl (fun h15 => ?_) (fun h15 => ?_)
        · refine TL_grun rfl rfl ?_
          refine TL_y rfl rfl (Y_field_addr rfl) ?_
          refine TL_grun rfl rfl ?_
          refine TL_y rfl rfl (Y_field_addr rfl) ?_
          refine TL_grun rfl rfl ?_
          refine TL_y rfl rfl (Y_load rfl rfl) ?_
          refine TL_grun rfl rfl ?_
          refine TL_y rfl rfl (Y_eq rfl rfl) ?_
          refine TL_y rfl rfl (Y_pick_t rfl rfl) ?_
          refine TL_y rfl rfl (Y_move rfl) ?_
          refine TL_splitd 21 rfl (fun h21 => ?_) (fun h21 => ?_)
          · refine TL_grun rfl rfl ?_
            refine TL_y rfl rfl (Y_field_addr rfl) ?_
            refine TL_grun rfl rfl ?_
            refine TL_y rfl rfl (Y_field_addr rfl) ?_
            refine TL_grun rfl rfl ?_
            refine TL_y rfl rfl (Y_load rfl rfl) ?_
            refine TL_grun rfl rfl ?_
            refine TL_y rfl rfl (Y_len rfl) ?_
            refine TL_grun rfl rfl ?_
            refine TL_y rfl rfl (Y_eq rfl rfl) ?_
            refine TL_y rfl rfl (Y_pick_t rfl rfl) ?_
            refine TL_chain_end rfl ?_ (by repeat (first | exact sub_refl | refine sub_ext rfl ?_)) GivesTo.g
            exact congrArg Value.bool (decide_eq_decide.2 (by simp [someSeal, emptyS, *]))
          · refine TL_gskip rfl rfl rfl rfl ?_
            refine TL_gskip rfl rfl rfl rfl ?_
            refine TL_gskip rfl rfl rfl rfl ?_
            refine TL_gskip rfl rfl rfl rfl ?_
            refine TL_gskip rfl rfl rfl rfl ?_
            refine TL_y rfl rfl (Y_pick_f rfl rfl) ?_
            refine TL_chain_end rfl ?_ (by repeat (first | exact sub_refl | refine sub_ext rfl ?_)) GivesTo.g
            exact congrArg Value.bool (decide_eq_false (by simp [someSeal, emptyS, *])).symm
        · refine TL_gskip rfl rfl rfl rfl ?_
          refine TL_gskip rfl rfl rfl rfl ?_
          refine TL_gskip rfl rfl rfl rfl ?_
          refine TL_gskip rfl rfl rfl rfl ?_
          refine TL_y rfl rfl (Y_pick_f rfl rfl) ?_
          refine TL_y rfl rfl (Y_move rfl) ?_
          refine TL_gskip rfl rfl rfl rfl ?_
          refine TL_gskip rfl rfl rfl rfl ?_
          refine TL_gskip rfl rfl rfl rfl ?_
          refine TL_gskip rfl rfl rfl rfl ?_
          refine TL_gskip rfl rfl rfl rfl ?_
          refine TL_y rfl rfl (Y_pick_f rfl rfl) ?_
          refine TL_chain_end rfl ?_ (by repeat (first | exact sub_refl | refine sub_ext rfl ?_)) GivesTo.g
          exact congrArg Value.bool (decide_eq_false (by simp [someSeal, emptyS, *])).symm
      · refine TL_gskip rfl rfl rfl rfl ?_
        refine TL_gskip rfl rfl rfl rfl ?_
        refine TL_gskip rfl rfl rfl rfl ?_
        refine TL_gskip rfl rfl rfl rfl ?_
        refine TL_y rfl rfl (Y_pick_f rfl rfl) ?_
        refine TL_y rfl rfl (Y_move rfl) ?_
        refine TL_gskip rfl rfl rfl rfl ?_
        refine TL_gskip rfl rfl rfl rfl ?_
        refine TL_gskip rfl rfl rfl rfl ?_
        refine TL_gskip rfl rfl rfl rfl ?_
        refine TL_y rfl rfl (Y_pick_f rfl rfl) ?_
        refine TL_y rfl rfl (Y_move rfl) ?_
        refine TL_gskip rfl rfl rfl rfl ?_
        refine TL_gskip rfl rfl rfl rfl ?_
        refine TL_gskip rfl rfl rfl rfl ?_
        refine TL_gskip rfl rfl rfl rfl ?_
        refine TL_gskip rfl rfl rfl rfl ?_
        refine TL_y rfl rfl (Y_pick_f rfl rfl) ?_
        refine TL_chain_end rfl ?_ (by repeat (first | exact sub_refl | refine sub_ext rfl ?_)) GivesTo.g
        exact congrArg Value.bool (decide_eq_false (by simp [someSeal, emptyS, *])).symm
    refine TL_y rfl rfl (Y_assign rfl) ?_
    refine TL_nil ?_
    refine T_ret ?_
    refine thenS_ret ?_
    exact RetG_1 (.inl rfl) rfl (ResV.tmp rfl) GivesTo.g (⟨by rw [decide_eq_decide.2 (show rEntry e ↔ someSeal e.order = false by unfold rEntry; rw [if_pos h4])], rfl⟩)
  · refine T_skip ?_
    refine thenS_normal ?_
    refine T_region ?_
    refine TL_y rfl rfl (Y_field_addr rfl) ?_
    refine TL_y rfl rfl (Y_load_agg rfl rfl) ?_
    refine TL_call rfl rfl (rightSeal_spec e.order hx slk) ?_
    rintro _ _ ⟨rfl, rfl⟩
    refine TL_y rfl rfl (Y_assign rfl) ?_
    refine TL_nil ?_
    refine T_ret ?_
    exact RetG_1 (.inl rfl) rfl (ResV.tmp rfl) GivesTo.g (⟨by rw [decide_eq_decide.2 (show rEntry e ↔ rSeal e.order by unfold rEntry; rw [if_neg (by simp [h4])])], rfl⟩)
end Go.SL
set_option linter.unusedVariables false
set_option linter.unusedSimpArgs false
namespace Go.SL
open Go Go.Proofs
abbrev rrF (b : Nat) (s : RS) (p : Option Addr × Nat) : List HP := [cells b [.slice p.1 s.b.length p.2, .int .i64 (s.n : Int), .bool (!s.bad)] 77, sl (intR .u8) p.1 p.2 s.b]
def rrd (b : Nat) (s : RS) : HP := exH (rrF b s)
def rrN (b : Nat) (n : Int) (ok : Bool) : HP := exH fun v0 : Value => [cells b [v0, .int .i64 n, .bool ok] 77]
section
variable {r : Option Nat} {n : Nat} {P : Program} {ops : Array Oper} {rest : List Oper} {K : St → Prop} {Q : Exit → St → Prop} {D : List Deferred} {E : Env} {L L' : List HP} {b : Nat} {s : RS} {ty : TypeId}
theorem T_rrd {c : Code} (h : ∀ A c', T r n P c ⟨D, E, cells b [.slice A s.b.length c', .int .i64 (s.n : Int), .bool (!s.bad)] 77 :: sl (intR .u8) A c' s.b :: L⟩ Q) : T r n P c ⟨D, E, rrd b s :: L⟩ Q := T_exH (f := rrF b s) fun p => h p.1 p.2
theorem rrd_close {A : Option Addr} {c : Nat} {L1 : List HP} (b : Nat) (s : RS) {ok : Bool} (ho : ok = !s.bad) [h1 : FindC L b [.slice A s.b.length c, .int .i64 (s.n : Int), .bool ok] 77 L1] (hk : SlK L1 (intR .u8) A c s.b) : Gives L (rrd b s :: L1) := by
  subst ho
  refine Gives.trans (h1.g.trans (Gives.cons _ hk.lay)) ?_
  exact exH_close (f := rrF b s) (A, c)
instance findHP_rrN {v0 : Value} {m : Int} {ok : Bool} {L1 : List HP} [h : FindC L b [v0, .int .i64 m, .bool ok] 77 L1] : FindHP L (rrN b m ok) L1 := ⟨h.g.trans (exH_close (f := fun v0 : Value => [cells b [v0, .int .i64 m, .bool ok] 77]) v0)⟩
theorem Y_load_rrN {x : Operand} {t : TypeId} {m : Int} {ok : Bool} [ht : TyAgg P t false] (hx : ev E x = some (.pointer (some ⟨b, 1, none⟩))) : Yl P E (rrN b m ok :: L) (.load t x) ty (.int .i64 m) := fun n D W a w dst pos af g ha hs => by
  obtain ⟨v0, hv⟩ := exH_open hs
  exact Y_load (L := cells b [v0, .int .i64 m, .bool ok] 77 :: L) (ht := ht) hx rfl n D W a w dst pos af g ha hv
theorem Y_load_rrd {R : List HP} {x : Operand} {t : TypeId} [ht : TyAgg P t false] [hf : FindK L b (rrd b s) R] (hx : ev E x = some (.pointer (some ⟨b, 2, none⟩))) : Yl P E L (.load t x) ty (.bool (!s.bad)) := fun n D W a w dst pos af g ha hs => by
  obtain ⟨p, hv⟩ := exH_open (hs.gives hf.g)
  exact Y_load (L := cells b [.slice p.1 s.b.length p.2, .int .i64 (s.n : Int), .bool (!s.bad)] 77 :: sl (intR .u8) p.1 p.2 s.b :: R) (ht := ht) hx rfl n D W a w dst pos af g ha hv
end
instance findK_rrd {L : List HP} {b : Nat} {s : RS} : FindK (rrd b s :: L) b (rrd b s) L := ⟨Gives.refl _⟩
theorem RdR.fail {α : Type} {ok iv : α → Prop} {bb : α → List Int} {s s' : RS} {x : α} (h : RdR ok iv bb s x s') (hb : s'.bad = true) : RdR ok iv bb s x ⟨s.b, s.n, true⟩ := ⟨(fun h => by simp at h), (fun y r h1 h2 h3 => by have := h.cmp y r h1 h2 h3; rw [hb] at this; cases this), rfl, h.iv⟩
theorem refNum {s : RS} {x k e : Nat} (hr : RdU s.b x k e) (most : Nat) (hm : most ≤ 4611686018427387904) : (e = 10 ∧ RdR (rNum (most : Int)) (rNum (most : Int)) bNum s 0 ⟨s.b, s.n, true⟩) ∨ (e = 0 ∧ most < x ∧ RdR (rNum (most : Int)) (rNum (most : Int)) bNum s 0 ⟨s.b, s.n, true⟩) ∨ (e = 0 ∧ x ≤ most ∧ s.bad = true ∧ RdR (rNum (most : Int)) (rNum (most : Int)) bNum s 0 ⟨s.b, s.n, true⟩) ∨ (e = 0 ∧ x ≤ most ∧ s.bad = false ∧ k ≤ s.b.length ∧ k ≤ 10 ∧ RdR (rNum (most : Int)) (rNum (most : Int)) bNum s (x : Int) ⟨s.b.drop k, s.n + k, false⟩) := by
  have h0 : ∀ (hb : s.bad = true ∨ RdU s.b 0 0 10), RdR (rNum (most : Int)) (rNum (most : Int)) bNum s 0 ⟨s.b, s.n, true⟩ := fun hb => (numR (most := (most : Int)) (by omega) (x := 0) (s' := ⟨s.b, s.n, true⟩) (.inr ⟨rfl, rfl, hb⟩)).1 (by omega)
  rcases rdU_e hr with ⟨rfl, h1, h2, h3, h4⟩ | ⟨rfl, rfl, rfl⟩
  · cases hb : s.bad with
    | true =>
      by_cases hx : x ≤ most
      · exact .inr (.inr (.inl ⟨rfl, hx, rfl, h0 (.inl hb)⟩))
      · exact .inr (.inl ⟨rfl, by omega, h0 (.inl hb)⟩)
    | false =>
      have ht : TakeU s x ⟨s.b.drop k, s.n + k, false⟩ := .inl ⟨hb, k, hr, rfl⟩
      by_cases hx : x ≤ most
      · exact .inr (.inr (.inr ⟨rfl, hx, rfl, h3, h2, (numR (most := (most : Int)) (by omega) ht).1 (by omega)⟩))
      · exact .inr (.inl ⟨rfl, by omega, ((numR (most := (most : Int)) (by omega) ht).2 (by omega)).fail rfl⟩)
  · exact .inl ⟨rfl, h0 (.inr hr)⟩
theorem rnumber_spec {L : List HP} {b : Nat} {s : RS} (most : Nat) (hm : most ≤ 4611686018427387904) (hn : s.n + s.b.length ≤ 140737488355328) : Fn Tryz.prog 26 #[.pointer (some ⟨b, 0, none⟩), .int .u64 (most : Int)] (rrd b s :: L) (fun v L' => ∃ x s', v = .int .i64 x ∧ L' = rrd b s' :: L ∧ RdR (rNum (most : Int)) (rNum (most : Int)) bNum s x s') := by
  refine Fn_enter Tryz.func26 rfl rfl rfl rfl ?_
  refine T_rrd fun A c => ?_
  refine T_region ?_
  refine TL_y rfl rfl (Y_assign rfl) ?_
  refine TL_nil ?_
  refine T_region ?_
  refine TL_y rfl rfl (Y_move rfl) ?_
  refine TL_y rfl rfl (Y_nil_check rfl) ?_
  refine TL_y rfl rfl (Y_field_addr rfl) ?_
  refine TL_y rfl rfl (Y_load rfl rfl) ?_
  refine TL_call rfl rfl (refReadUint_spec slk) ?_
  rintro _ _ ⟨⟨x, k, e, rfl, hr⟩, rfl⟩
  refine TL_y rfl rfl (Y_move rfl) ?_
  refine TL_y rfl rfl (Y_extract rfl rfl) ?_
  refine TL_y rfl rfl (Y_extract rfl rfl) ?_
  refine TL_y rfl rfl (Y_extract rfl rfl) ?_
  refine TL_y rfl rfl (Y_assign rfl) ?_
  refine TL_y rfl rfl (Y_assign rfl) ?_
  refine TL_y rfl rfl (Y_assign rfl) ?_
  refine TL_nil ?_
  refine T_seq ?_
  rcases refNum hr most hm with ⟨rfl, h⟩ | ⟨rfl, hx, h⟩ | ⟨rfl, hx, hbd, h⟩ | ⟨rfl, hx, hbd, hk, hk10, h⟩
  · refine T_region ?_
    refine TL_y rfl rfl (Y_move rfl) ?_
    refine TL_y rfl rfl (Y_ne rfl rfl) ?_
    refine TL_name 18 (v' := .bool true) rfl (congrArg Value.bool (by decide)) ?_
    refine TL_y rfl rfl (Y_move rfl) ?_
    refine TL_gskip rfl rfl rfl rfl ?_
    refine TL_gskip rfl rfl rfl rfl ?_
    refine TL_gskip rfl rfl rfl rfl ?_
    refine TL_y rfl rfl (Y_pick_t rfl rfl) ?_
    refine TL_y rfl rfl (Y_move rfl) ?_
    refine TL_gskip rfl rfl rfl rfl ?_
    refine TL_gskip rfl rfl rfl rfl ?_
    refine TL_gskip rfl rfl rfl rfl ?_
    refine TL_gskip rfl rfl rfl rfl ?_
    refine TL_gskip rfl rfl rfl rfl ?_
    refine TL_y rfl rfl (Y_pick_t rfl rfl) ?_
    refine TL_nil ?_
    refine T_cond_true rfl ?_
    refine T_region ?_
    refine TL_y rfl rfl (Y_move rfl) ?_
    refine TL_y rfl rfl (Y_nil_check rfl) ?_
    refine TL_y rfl rfl (Y_field_addr rfl) ?_
    refine TL_store rfl rfl rfl rfl rfl rfl ?_
    refine TL_nil ?_
    refine T_region ?_
    refine TL_y rfl rfl (Y_assign rfl) ?_
    refine TL_nil ?_
    refine T_ret ?_
    refine thenS_ret ?_
    refine RetQ.gives (rrd_close (A := A) (c := c) b ⟨s.b, s.n, true⟩ rfl slk) ?_
    exact RetG_1 (.inl rfl) rfl (ResV.tmp rfl) GivesTo.g (⟨0, ⟨s.b, s.n, true⟩, rfl, rfl, h⟩)
  · refine T_region ?_
    refine TL_y rfl rfl (Y_move rfl) ?_
    refine TL_y rfl rfl (Y_ne rfl rfl) ?_
    refine TL_name 18 (v' := .bool false) rfl (congrArg Value.bool (by decide)) ?_
    refine TL_y rfl rfl (Y_move rfl) ?_
    refine TL_grun rfl rfl ?_
    refine TL_y rfl rfl (Y_move rfl) ?_
    refine TL_grun rfl rfl ?_
    refine TL_y rfl rfl (Y_move rfl) ?_
    refine TL_grun rfl rfl ?_
    refine TL_y rfl rfl (Y_gt rfl rfl) ?_
    refine TL_name 22 (v' := .bool true) rfl (congrArg Value.bool (decide_eq_true (by omega))) ?_
    refine TL_y rfl rfl (Y_pick_f rfl rfl) ?_
    refine TL_y rfl rfl (Y_move rfl) ?_
    refine TL_gskip rfl rfl rfl rfl ?_
    refine TL_gskip rfl rfl rfl rfl ?_
    refine TL_gskip rfl rfl rfl rfl ?_
    refine TL_gskip rfl rfl rfl rfl ?_
    refine TL_gskip rfl rfl rfl rfl ?_
    refine TL_y rfl rfl (Y_pick_t rfl rfl) ?_
    refine TL_nil ?_
    refine T_cond_true rfl ?_
    refine T_region ?_
    refine TL_y rfl rfl (Y_move rfl) ?_
    refine TL_y rfl rfl (Y_nil_check rfl) ?_
    refine TL_y rfl rfl (Y_field_addr rfl) ?_
    refine TL_store rfl rfl rfl rfl rfl rfl ?_
    refine TL_nil ?_
    refine T_region ?_
    refine TL_y rfl rfl (Y_assign rfl) ?_
    refine TL_nil ?_
    refine T_ret ?_
    refine thenS_ret ?_
    refine RetQ.gives (rrd_close (A := A) (c := c) b ⟨s.b, s.n, true⟩ rfl slk) ?_
    exact RetG_1 (.inl rfl) rfl (ResV.tmp rfl) GivesTo.g (⟨0, ⟨s.b, s.n, true⟩, rfl, rfl, h⟩)
  · refine T_region ?_
    refine TL_y rfl rfl (Y_move rfl) ?_
    refine TL_y rfl rfl (Y_ne rfl rfl) ?_
    refine TL_name 18 (v' := .bool false) rfl (congrArg Value.bool (by decide)) ?_
    refine TL_y rfl rfl (Y_move rfl) ?_
    refine TL_grun rfl rfl ?_
    refine TL_y rfl rfl (Y_move rfl) ?_
    refine TL_grun rfl rfl ?_
    refine TL_y rfl rfl (Y_move rfl) ?_
    refine TL_grun rfl rfl ?_
    refine TL_y rfl rfl (Y_gt rfl rfl) ?_
    refine TL_name 22 (v' := .bool false) rfl (congrArg Value.bool (decide_eq_false (by omega))) ?_
    refine TL_y rfl rfl (Y_pick_f rfl rfl) ?_
    refine TL_y rfl rfl (Y_move rfl) ?_
    refine TL_grun rfl rfl ?_
    refine TL_y rfl rfl (Y_move rfl) ?_
    refine TL_grun rfl rfl ?_
    refine TL_y rfl rfl (Y_nil_check rfl) ?_
    refine TL_grun rfl rfl ?_
    refine TL_y rfl rfl (Y_field_addr rfl) ?_
    refine TL_grun rfl rfl ?_
    refine TL_y rfl rfl (Y_load rfl rfl) ?_
    refine TL_name 28 (v' := .bool false) rfl (by rw [hbd]; rfl) ?_
    refine TL_grun rfl rfl ?_
    refine TL_y rfl rfl (Y_not_f rfl) ?_
    refine TL_y rfl rfl (Y_pick_f rfl rfl) ?_
    refine TL_nil ?_
    refine T_cond_true rfl ?_
    refine T_region ?_
    refine TL_y rfl rfl (Y_move rfl) ?_
    refine TL_y rfl rfl (Y_nil_check rfl) ?_
    refine TL_y rfl rfl (Y_field_addr rfl) ?_
    refine TL_store rfl rfl rfl rfl rfl rfl ?_
    refine TL_nil ?_
    refine T_region ?_
    refine TL_y rfl rfl (Y_assign rfl) ?_
    refine TL_nil ?_
    refine T_ret ?_
    refine thenS_ret ?_
    refine RetQ.gives (rrd_close (A := A) (c := c) b ⟨s.b, s.n, true⟩ rfl slk) ?_
    exact RetG_1 (.inl rfl) rfl (ResV.tmp rfl) GivesTo.g (⟨0, ⟨s.b, s.n, true⟩, rfl, rfl, h⟩)
  · refine T_region ?_
    refine TL_y rfl rfl (Y_move rfl) ?_
    refine TL_y rfl rfl (Y_ne rfl rfl) ?_
    refine TL_name 18 (v' := .bool false) rfl (congrArg Value.bool (by decide)) ?_
    refine TL_y rfl rfl (Y_move rfl) ?_
    refine TL_grun rfl rfl ?_
    refine TL_y rfl rfl (Y_move rfl) ?_
    refine TL_grun rfl rfl ?_
    refine TL_y rfl rfl (Y_move rfl) ?_
    refine TL_grun rfl rfl ?_
    refine TL_y rfl rfl (Y_gt rfl rfl) ?_
    refine TL_name 22 (v' := .bool false) rfl (congrArg Value.bool (decide_eq_false (by omega))) ?_
    refine TL_y rfl rfl (Y_pick_f rfl rfl) ?_
    refine TL_y rfl rfl (Y_move rfl) ?_
    refine TL_grun rfl rfl ?_
    refine TL_y rfl rfl (Y_move rfl) ?_
    refine TL_grun rfl rfl ?_
    refine TL_y rfl rfl (Y_nil_check rfl) ?_
    refine TL_grun rfl rfl ?_
    refine TL_y rfl rfl (Y_field_addr rfl) ?_
    refine TL_grun rfl rfl ?_
    refine TL_y rfl rfl (Y_load rfl rfl) ?_
    refine TL_name 28 (v' := .bool true) rfl (by rw [hbd]; rfl) ?_
    refine TL_grun rfl rfl ?_
    refine TL_y rfl rfl (Y_not_t rfl) ?_
    refine TL_y rfl rfl (Y_pick_f rfl rfl) ?_
    refine TL_nil ?_
    refine T_cond_false rfl ?_
    refine T_skip ?_
    refine thenS_normal ?_
    refine T_region_draw (rrN b (s.n : Int) (!s.bad) :: []) [0, 0, 0, 4, 12, 28, 0, 124, 0, 256, 768, 1792, 0, 7936, 4093, 20477, 53245, 131071, 262143, 524287] [19] [(0, true), (1, true), (2, true), (3, true), (4, true), (6, true), (8, true), (9, true), (10, true), (11, true), (12, true), (13, true), (5, false), (7, true), (14, true), (15, true), (16, false), (17, true), (18, true), (19, false)] (by kernel_rfl) (by decide +kernel) GivesTo.g ?_
    refine TF_y rfl rfl (Y_move rfl) ?_
    refine TF_y rfl rfl (Y_move rfl) ?_
    refine TF_y rfl rfl (Y_move rfl) ?_
    refine TF_y rfl rfl (Y_nil_check rfl) ?_
    refine TF_y rfl rfl (Y_field_addr rfl) ?_
    refine TF_y rfl rfl (Y_move rfl) ?_
    refine TF_y rfl rfl (Y_move rfl) ?_
    refine TF_y rfl rfl (Y_nil_check rfl) ?_
    refine TF_y rfl rfl (Y_field_addr rfl) ?_
    refine TF_y rfl rfl (Y_load_rrN rfl) ?_
    refine TF_y rfl rfl (Y_move rfl) ?_
    refine TF_y rfl rfl (Y_add rfl rfl (by omega)) ?_
    refine TF_name 47 (v' := .int .i64 ((s.n + k : Nat) : Int)) rfl (rfl) ?_
    refine TF_anchor rfl ?_
    refine TL_y rfl rfl (Y_load rfl rfl) ?_
    refine TF_end GivesTo.g ?_
    refine TF_y rfl rfl (Y_cut_l rfl rfl (by omega)) ?_
    refine TF_name 41 (v' := .slice (cutA A k c 1) (s.b.drop k).length (c - k)) rfl (by rw [List.length_drop]; rfl) ?_
    refine TF_y rfl rfl (Y_nil_check rfl) ?_
    refine TF_y rfl rfl (Y_field_addr rfl) ?_
    refine TF_anchor rfl ?_
    refine TL_store rfl rfl rfl rfl rfl rfl ?_
    refine TF_end GivesTo.g ?_
    refine TF_y rfl rfl (Y_nil_check rfl) ?_
    refine TF_y rfl rfl (Y_field_addr rfl) ?_
    refine TF_anchor rfl ?_
    refine TL_store rfl rfl rfl rfl rfl rfl ?_
    refine TF_end_tail rfl ?_
    refine TF_nil ?_
    refine T_region ?_
    refine TL_y rfl rfl (Y_move rfl) ?_
    refine TL_y rfl rfl (Y_conv rfl) ?_
    refine TL_name 53 (v' := .int .i64 (x : Int)) rfl (by congr 1; exact IntWalk.i64_in _ (by omega)) ?_
    refine TL_y rfl rfl (Y_assign rfl) ?_
    refine TL_nil ?_
    refine T_ret ?_
    refine RetQ.gives (rrd_close b ⟨s.b.drop k, s.n + k, false⟩ (show (!s.bad) = !false by rw [hbd]) (SlK.drop (slk (A := A) (c := c)) hk)) ?_
    exact RetG_1 (.inl rfl) rfl (ResV.tmp rfl) GivesTo.g (⟨(x : Int), ⟨s.b.drop k, s.n + k, false⟩, rfl, rfl, h⟩)
theorem refNam {s : RS} {x : ByteArray} {k e : Nat} (hr : RdT s.b 32 x k e) : (e = 10 ∧ RdR isName (fun x => x.size ≤ 32) txt s ⟨#[]⟩ ⟨s.b, s.n, true⟩) ∨ (e = 0 ∧ s.bad = true ∧ RdR isName (fun x => x.size ≤ 32) txt s ⟨#[]⟩ ⟨s.b, s.n, true⟩) ∨ (e = 0 ∧ s.bad = false ∧ x.size ≤ 32 ∧ ¬ isName x ∧ RdR isName (fun x => x.size ≤ 32) txt s ⟨#[]⟩ ⟨s.b, s.n, true⟩) ∨ (e = 0 ∧ s.bad = false ∧ x.size ≤ 32 ∧ isName x ∧ k ≤ s.b.length ∧ RdR isName (fun x => x.size ≤ 32) txt s x ⟨s.b.drop k, s.n + k, false⟩) := by
  have h0 : ∀ (hb : s.bad = true ∨ RdT s.b 32 ⟨#[]⟩ 0 10), RdR isName (fun x => x.size ≤ 32) txt s ⟨#[]⟩ ⟨s.b, s.n, true⟩ := fun hb => by
    have := (txtR (s := s) (s' := ⟨s.b, s.n, true⟩) (x := ⟨#[]⟩) (.inr ⟨rfl, rfl, hb⟩)).2 (by decide +kernel)
    exact this.fail rfl
  rcases rdT_e hr with ⟨rfl, h1⟩ | ⟨rfl, rfl, rfl⟩
  · cases hb : s.bad with
    | true => exact .inr (.inl ⟨rfl, rfl, h0 (.inl hb)⟩)
    | false =>
      have ht : TakeT 32 s x ⟨s.b.drop k, s.n + k, false⟩ := .inl ⟨hb, k, hr, rfl⟩
      have hsz : x.size ≤ 32 := by have := (rdT_split hr).2.2; omega
      by_cases hx : isName x
      · exact .inr (.inr (.inr ⟨rfl, rfl, hsz, hx, h1, (txtR ht).1 hx⟩))
      · have h2 := ((txtR ht).2 hx).fail rfl
        exact .inr (.inr (.inl ⟨rfl, rfl, hsz, hx, ⟨(fun h => by simp at h), h2.cmp, h2.tot, by decide⟩⟩))
  · exact .inl ⟨rfl, h0 (.inr hr)⟩
theorem rrname_spec {L : List HP} {b : Nat} {s : RS} (hn : s.n + s.b.length ≤ 140737488355328) : Fn Tryz.prog 56 #[.pointer (some ⟨b, 0, none⟩)] (rrd b s :: L) (fun v L' => ∃ x s', v = .string x ∧ L' = rrd b s' :: L ∧ RdR isName (fun x => x.size ≤ 32) txt s x s') := by
  refine Fn_enter Tryz.func56 rfl rfl rfl rfl ?_
  refine T_rrd fun A c => ?_
  refine T_region ?_
  refine TL_y rfl rfl (Y_assign rfl) ?_
  refine TL_nil ?_
  refine T_region ?_
  refine TL_y rfl rfl (Y_move rfl) ?_
  refine TL_y rfl rfl (Y_nil_check rfl) ?_
  refine TL_y rfl rfl (Y_field_addr rfl) ?_
  refine TL_y rfl rfl (Y_load rfl rfl) ?_
  refine TL_call rfl rfl (refReadText_spec slk 32 (by decide)) ?_
  rintro _ _ ⟨⟨x, k, e, rfl, hr⟩, rfl⟩
  refine TL_y rfl rfl (Y_move rfl) ?_
  refine TL_y rfl rfl (Y_extract rfl rfl) ?_
  refine TL_y rfl rfl (Y_extract rfl rfl) ?_
  refine TL_y rfl rfl (Y_extract rfl rfl) ?_
  refine TL_y rfl rfl (Y_assign rfl) ?_
  refine TL_y rfl rfl (Y_assign rfl) ?_
  refine TL_y rfl rfl (Y_assign rfl) ?_
  refine TL_nil ?_
  refine T_seq ?_
  rcases refNam hr with ⟨rfl, h⟩ | ⟨rfl, hbd, h⟩ | ⟨rfl, hbd, hsz, hx, h⟩ | ⟨rfl, hbd, hsz, hx, hk, h⟩
  · refine T_region ?_
    refine TL_y rfl rfl (Y_move rfl) ?_
    refine TL_y rfl rfl (Y_ne rfl rfl) ?_
    refine TL_name 16 (v' := .bool true) rfl (congrArg Value.bool (by decide)) ?_
    refine TL_y rfl rfl (Y_move rfl) ?_
    refine TL_gskip rfl rfl rfl rfl ?_
    refine TL_gskip rfl rfl rfl rfl ?_
    refine TL_gskip rfl rfl rfl rfl ?_
    refine TL_gskip rfl rfl rfl rfl ?_
    refine TL_gskip rfl rfl rfl rfl ?_
    refine TL_y rfl rfl (Y_pick_t rfl rfl) ?_
    refine TL_y rfl rfl (Y_move rfl) ?_
    refine TL_gskip rfl rfl rfl rfl ?_
    refine TL_gskip rfl rfl rfl rfl ?_
    refine TL_gskip rfl rfl rfl rfl ?_
    refine TL_y rfl rfl (Y_pick_t rfl rfl) ?_
    refine TL_nil ?_
    refine T_cond_true rfl ?_
    refine T_region ?_
    refine TL_y rfl rfl (Y_move rfl) ?_
    refine TL_y rfl rfl (Y_nil_check rfl) ?_
    refine TL_y rfl rfl (Y_field_addr rfl) ?_
    refine TL_store rfl rfl rfl rfl rfl rfl ?_
    refine TL_nil ?_
    refine T_region ?_
    refine TL_y rfl rfl (Y_assign rfl) ?_
    refine TL_nil ?_
    refine T_ret ?_
    refine thenS_ret ?_
    refine RetQ.gives (rrd_close (A := A) (c := c) b ⟨s.b, s.n, true⟩ rfl slk) ?_
    exact RetG_1 (.inl rfl) rfl (ResV.tmp rfl) GivesTo.g (⟨⟨#[]⟩, ⟨s.b, s.n, true⟩, rfl, rfl, h⟩)
  · refine T_region ?_
    refine TL_y rfl rfl (Y_move rfl) ?_
    refine TL_y rfl rfl (Y_ne rfl rfl) ?_
    refine TL_name 16 (v' := .bool false) rfl (congrArg Value.bool (by decide)) ?_
    refine TL_y rfl rfl (Y_move rfl) ?_
    refine TL_grun rfl rfl ?_
    refine TL_y rfl rfl (Y_move rfl) ?_
    refine TL_grun rfl rfl ?_
    refine TL_y rfl rfl (Y_nil_check rfl) ?_
    refine TL_grun rfl rfl ?_
    refine TL_y rfl rfl (Y_field_addr rfl) ?_
    refine TL_grun rfl rfl ?_
    refine TL_y rfl rfl (Y_load rfl rfl) ?_
    refine TL_name 21 (v' := .bool false) rfl (by rw [hbd]; rfl) ?_
    refine TL_grun rfl rfl ?_
    refine TL_y rfl rfl (Y_not_f rfl) ?_
    refine TL_y rfl rfl (Y_pick_f rfl rfl) ?_
    refine TL_y rfl rfl (Y_move rfl) ?_
    refine TL_gskip rfl rfl rfl rfl ?_
    refine TL_gskip rfl rfl rfl rfl ?_
    refine TL_gskip rfl rfl rfl rfl ?_
    refine TL_y rfl rfl (Y_pick_t rfl rfl) ?_
    refine TL_nil ?_
    refine T_cond_true rfl ?_
    refine T_region ?_
    refine TL_y rfl rfl (Y_move rfl) ?_
    refine TL_y rfl rfl (Y_nil_check rfl) ?_
    refine TL_y rfl rfl (Y_field_addr rfl) ?_
    refine TL_store rfl rfl rfl rfl rfl rfl ?_
    refine TL_nil ?_
    refine T_region ?_
    refine TL_y rfl rfl (Y_assign rfl) ?_
    refine TL_nil ?_
    refine T_ret ?_
    refine thenS_ret ?_
    refine RetQ.gives (rrd_close (A := A) (c := c) b ⟨s.b, s.n, true⟩ rfl slk) ?_
    exact RetG_1 (.inl rfl) rfl (ResV.tmp rfl) GivesTo.g (⟨⟨#[]⟩, ⟨s.b, s.n, true⟩, rfl, rfl, h⟩)
  · refine T_region ?_
    refine TL_y rfl rfl (Y_move rfl) ?_
    refine TL_y rfl rfl (Y_ne rfl rfl) ?_
    refine TL_name 16 (v' := .bool false) rfl (congrArg Value.bool (by decide)) ?_
    refine TL_y rfl rfl (Y_move rfl) ?_
    refine TL_grun rfl rfl ?_
    refine TL_y rfl rfl (Y_move rfl) ?_
    refine TL_grun rfl rfl ?_
    refine TL_y rfl rfl (Y_nil_check rfl) ?_
    refine TL_grun rfl rfl ?_
    refine TL_y rfl rfl (Y_field_addr rfl) ?_
    refine TL_grun rfl rfl ?_
    refine TL_y rfl rfl (Y_load rfl rfl) ?_
    refine TL_name 21 (v' := .bool true) rfl (by rw [hbd]; rfl) ?_
    refine TL_grun rfl rfl ?_
    refine TL_y rfl rfl (Y_not_t rfl) ?_
    refine TL_y rfl rfl (Y_pick_f rfl rfl) ?_
    refine TL_y rfl rfl (Y_move rfl) ?_
    refine TL_grun rfl rfl ?_
    refine TL_y rfl rfl (Y_move rfl) ?_
    refine TL_grun rfl rfl ?_
    refine TL_call rfl rfl (refName_spec _ x (by simp only [maxEl]; omega)) ?_
    rintro _ _ ⟨rfl, rfl⟩
    refine TL_name 26 (v' := .bool false) rfl (congrArg Value.bool (decide_eq_false hx)) ?_
    refine TL_grun rfl rfl ?_
    refine TL_y rfl rfl (Y_not_f rfl) ?_
    refine TL_y rfl rfl (Y_pick_f rfl rfl) ?_
    refine TL_nil ?_
    refine T_cond_true rfl ?_
    refine T_region ?_
    refine TL_y rfl rfl (Y_move rfl) ?_
    refine TL_y rfl rfl (Y_nil_check rfl) ?_
    refine TL_y rfl rfl (Y_field_addr rfl) ?_
    refine TL_store rfl rfl rfl rfl rfl rfl ?_
    refine TL_nil ?_
    refine T_region ?_
    refine TL_y rfl rfl (Y_assign rfl) ?_
    refine TL_nil ?_
    refine T_ret ?_
    refine thenS_ret ?_
    refine RetQ.gives (rrd_close (A := A) (c := c) b ⟨s.b, s.n, true⟩ rfl slk) ?_
    exact RetG_1 (.inl rfl) rfl (ResV.tmp rfl) GivesTo.g (⟨⟨#[]⟩, ⟨s.b, s.n, true⟩, rfl, rfl, h⟩)
  · refine T_region ?_
    refine TL_y rfl rfl (Y_move rfl) ?_
    refine TL_y rfl rfl (Y_ne rfl rfl) ?_
    refine TL_name 16 (v' := .bool false) rfl (congrArg Value.bool (by decide)) ?_
    refine TL_y rfl rfl (Y_move rfl) ?_
    refine TL_grun rfl rfl ?_
    refine TL_y rfl rfl (Y_move rfl) ?_
    refine TL_grun rfl rfl ?_
    refine TL_y rfl rfl (Y_nil_check rfl) ?_
    refine TL_grun rfl rfl ?_
    refine TL_y rfl rfl (Y_field_addr rfl) ?_
    refine TL_grun rfl rfl ?_
    refine TL_y rfl rfl (Y_load rfl rfl) ?_
    refine TL_name 21 (v' := .bool true) rfl (by rw [hbd]; rfl) ?_
    refine TL_grun rfl rfl ?_
    refine TL_y rfl rfl (Y_not_t rfl) ?_
    refine TL_y rfl rfl (Y_pick_f rfl rfl) ?_
    refine TL_y rfl rfl (Y_move rfl) ?_
    refine TL_grun rfl rfl ?_
    refine TL_y rfl rfl (Y_move rfl) ?_
    refine TL_grun rfl rfl ?_
    refine TL_call rfl rfl (refName_spec _ x (by simp only [maxEl]; omega)) ?_
    rintro _ _ ⟨rfl, rfl⟩
    refine TL_name 26 (v' := .bool true) rfl (congrArg Value.bool (decide_eq_true hx)) ?_
    refine TL_grun rfl rfl ?_
    refine TL_y rfl rfl (Y_not_t rfl) ?_
    refine TL_y rfl rfl (Y_pick_f rfl rfl) ?_
    refine TL_nil ?_
    refine T_cond_false rfl ?_
    refine T_skip ?_
    refine thenS_normal ?_
    refine T_region_draw (rrN b (s.n : Int) (!s.bad) :: []) [0, 0, 0, 4, 12, 28, 0, 124, 0, 256, 768, 1792, 0, 7936, 4093, 20477, 53245, 131071, 262143, 524287] [19] [(0, true), (1, true), (2, true), (3, true), (4, true), (6, true), (8, true), (9, true), (10, true), (11, true), (12, true), (13, true), (5, false), (7, true), (14, true), (15, true), (16, false), (17, true), (18, true), (19, false)] (by kernel_rfl) (by decide +kernel) GivesTo.g ?_
    refine TF_y rfl rfl (Y_move rfl) ?_
    refine TF_y rfl rfl (Y_move rfl) ?_
    refine TF_y rfl rfl (Y_move rfl) ?_
    refine TF_y rfl rfl (Y_nil_check rfl) ?_
    refine TF_y rfl rfl (Y_field_addr rfl) ?_
    refine TF_y rfl rfl (Y_move rfl) ?_
    refine TF_y rfl rfl (Y_move rfl) ?_
    refine TF_y rfl rfl (Y_nil_check rfl) ?_
    refine TF_y rfl rfl (Y_field_addr rfl) ?_
    refine TF_y rfl rfl (Y_load_rrN rfl) ?_
    refine TF_y rfl rfl (Y_move rfl) ?_
    refine TF_y rfl rfl (Y_add rfl rfl (by omega)) ?_
    refine TF_name 45 (v' := .int .i64 ((s.n + k : Nat) : Int)) rfl (rfl) ?_
    refine TF_anchor rfl ?_
    refine TL_y rfl rfl (Y_load rfl rfl) ?_
    refine TF_end GivesTo.g ?_
    refine TF_y rfl rfl (Y_cut_l rfl rfl (by omega)) ?_
    refine TF_name 39 (v' := .slice (cutA A k c 1) (s.b.drop k).length (c - k)) rfl (by rw [List.length_drop]; rfl) ?_
    refine TF_y rfl rfl (Y_nil_check rfl) ?_
    refine TF_y rfl rfl (Y_field_addr rfl) ?_
    refine TF_anchor rfl ?_
    refine TL_store rfl rfl rfl rfl rfl rfl ?_
    refine TF_end GivesTo.g ?_
    refine TF_y rfl rfl (Y_nil_check rfl) ?_
    refine TF_y rfl rfl (Y_field_addr rfl) ?_
    refine TF_anchor rfl ?_
    refine TL_store rfl rfl rfl rfl rfl rfl ?_
    refine TF_end_tail rfl ?_
    refine TF_nil ?_
    refine T_region ?_
    refine TL_y rfl rfl (Y_move rfl) ?_
    refine TL_y rfl rfl (Y_assign rfl) ?_
    refine TL_nil ?_
    refine T_ret ?_
    refine RetQ.gives (rrd_close b ⟨s.b.drop k, s.n + k, false⟩ (show (!s.bad) = !false by rw [hbd]) (SlK.drop (slk (A := A) (c := c)) hk)) ?_
    exact RetG_1 (.inl rfl) rfl (ResV.tmp rfl) GivesTo.g (⟨x, ⟨s.b.drop k, s.n + k, false⟩, rfl, rfl, h⟩)
theorem vecR2 {s s1 : RS} {v : List Int} (h : RdR (okL (rNum 2147483647) 7) (okL (rNum 2147483647) 7) (bList bNum) s v s1) : RdR rVec (okL (rNum 2147483647) 7) bVec s v ⟨s1.b, s1.n, s1.bad || !decide (rVec v)⟩ := by
  have h2 := vecR h
  refine ⟨fun k => ?_, fun y r a1 a2 a3 => ?_, h2.tot, h2.iv⟩
  · have hb : s1.bad = false := by simpa using (Bool.or_eq_false_iff.1 k).1
    have hv : rVec v := by have := (Bool.or_eq_false_iff.1 k).2; simpa using this
    obtain ⟨c1, _, c3⟩ := h.snd hb
    exact ⟨c1, hv, c3⟩
  · have h3 := h2.cmp y r a1 a2 a3
    have hb : s1.bad = false := (Bool.or_eq_false_iff.1 h3).1
    have hv := (h2.snd h3).2.1
    show (s1.bad || !decide (rVec v)) = false
    rw [hb, decide_eq_true hv]; rfl
theorem rrvector_spec {L : List HP} {b : Nat} {s : RS} (hn : s.n + s.b.length ≤ 140737488355328) : Fn Tryz.prog 29 #[.pointer (some ⟨b, 0, none⟩)] (rrd b s :: L) (fun v L' => ∃ xs A c s', v = .slice A xs.length c ∧ L' = sl (intR .i64) A c xs :: rrd b s' :: L ∧ RdR rVec (okL (rNum 2147483647) 7) bVec s xs s') := by
  refine Fn_enter Tryz.func29 rfl rfl rfl rfl ?_
  refine T_region ?_
  refine TL_y rfl rfl (Y_assign rfl) ?_
  refine TL_nil ?_
  refine T_region ?_
  refine TL_y rfl rfl (Y_move rfl) ?_
  refine TL_call rfl rfl (rnumber_spec 7 (by decide) hn) ?_
  rintro _ _ ⟨x0, s0, rfl, rfl, h0⟩
  obtain ⟨m, rfl⟩ : ∃ m : Nat, x0 = (m : Int) := ⟨x0.toNat, by have := h0.iv; unfold rNum at this; omega⟩
  have hm := h0.iv
  unfold rNum at hm
  have htot := h0.tot
  refine TL_y rfl rfl (Y_assign rfl) ?_
  refine TL_nil ?_
  refine T_region ?_
  refine TL_y rfl rfl (Y_assign rfl) ?_
  refine TL_nil ?_
  refine T_seq ?_
  refine T_region ?_
  refine TL_y rfl rfl (Y_assign rfl) ?_
  refine TL_nil ?_
  refine T_block ?_
  refine T_loopK (σ := LsS Int) [0, 3] (fun g => g.xs.length ≤ m ∧ LI (rNum 2147483647) (rNum 2147483647) bNum m s0 g.xs g.s) (fun g kv => (5, .int .i64 (g.xs.length : Int)) :: (4, .slice g.A g.xs.length g.c) :: kv) (fun g => osl (intR .i64) 3 g.A g.c g.xs :: rrd b g.s :: L) (fun g => m - g.xs.length) (⟨[], s0, none, 0⟩) rfl (⟨Nat.zero_le _, LI.zero⟩) (osl_nil _ _ _ _) (sub_cons rfl (sub_cons rfl (sub_cons rfl (sub_cons rfl (sub_nil))))) ?_
  rintro ⟨xs, st, A, c⟩ ⟨hl, hli⟩
  dsimp only at hl hli ⊢
  have htot2 := hli.tot
  refine T_seq ?_
  refine T_region ?_
  refine TL_y rfl rfl (Y_move rfl) ?_
  refine TL_y rfl rfl (Y_move rfl) ?_
  refine TL_y rfl rfl (Y_lt rfl rfl) ?_
  refine TL_y rfl rfl (Y_move rfl) ?_
  refine TL_splitd 11 rfl (fun h11 => ?_) (fun h11 => ?_)
  · refine TL_grun rfl rfl ?_
    refine TL_y rfl rfl (Y_move rfl) ?_
    refine TL_grun rfl rfl ?_
    refine TL_y rfl rfl (Y_nil_check rfl) ?_
    refine TL_grun rfl rfl ?_
    refine TL_y rfl rfl (Y_field_addr rfl) ?_
    refine TL_grun rfl rfl ?_
    refine TL_y rfl rfl (Y_load_rrd rfl) ?_
    refine TL_y rfl rfl (Y_pick_t rfl rfl) ?_
    refine TL_nil ?_
    refine T_cond rfl (fun h16 => ?_) (fun h16 => ?_)
    · refine T_skip ?_
      refine thenS_normal ?_
      refine T_seq ?_
      refine T_block ?_
      refine T_region_last ?_
      refine TL_y rfl rfl (Y_move rfl) ?_
      refine TL_y rfl rfl (Y_move rfl) ?_
      refine TL_pullk b ?_
      refine TL_call rfl rfl (rnumber_spec 2147483647 (by decide) (by omega)) ?_
      rintro _ _ ⟨x, s2, rfl, rfl, hx⟩
      refine TL_build_slice rfl rfl rfl rfl rfl rfl ?_
      intro b22
      have hxv := hx.iv
      unfold rNum at hxv
      refine TL_osl (k := 1) (intR .i64) [x] (one_cell (Knows.const fun M => ⟨rfl, i64In_mk (by omega)⟩)) rfl (by decide) ?_
      refine TL_freeze_osl ?_
      refine TL_name 22 (v' := .slice (some ⟨b22, 0, none⟩) [x].length 1) rfl rfl ?_
      refine TL_append rfl rfl rfl rfl rfl slk (by simp only [List.length_cons, List.length_nil]; omega) ?_
      intro A23 c23
      refine TL_y rfl rfl (Y_assign rfl) ?_
      refine TL_nil ?_
      refine inB_normal ?_
      refine thenS_normal ?_
      refine T_region_last ?_
      refine TL_y rfl rfl (Y_move rfl) ?_
      refine TL_y rfl rfl (Y_add rfl rfl (by omega)) ?_
      refine TL_name 18 (v' := .int .i64 ((xs ++ [x]).length : Int)) rfl (by congr 1; simp) ?_
      refine TL_y rfl rfl (Y_assign rfl) ?_
      refine TL_nil ?_
      refine thenS_normal ?_
      exact ⟨⟨xs ++ [x], s2, A23, c23⟩, ⟨by simp only [List.length_append, List.length_cons, List.length_nil]; omega, hli.next (pf_num (by decide)) (by omega) hx⟩, by simp only [List.length_append, List.length_cons, List.length_nil]; omega, holds_to (sub_cons rfl (sub_cons rfl (sub_cons rfl (sub_cons rfl (sub_nil))))) GivesTo.g⟩
    · refine T_exit ?_
      refine thenS_exit ?_
      refine thenS_exit ?_
      refine inB_hit ?_
      refine thenS_normal ?_
      have hd : xs.length = m ∨ st.bad = true := .inr (by simpa using h16)
      refine T_pullo A c ?_
      refine T_freeze_osl ?_
      refine T_pullk b ?_
      refine T_rrd fun Ar cr => ?_
      refine T_region ?_
      refine TL_y rfl rfl (Y_move rfl) ?_
      refine TL_y rfl rfl (Y_move rfl) ?_
      refine TL_y rfl rfl (Y_nil_check rfl) ?_
      refine TL_y rfl rfl (Y_field_addr rfl) ?_
      refine TL_y rfl rfl (Y_load rfl rfl) ?_
      refine TL_y rfl rfl (Y_move rfl) ?_
      refine TL_split 29 rfl (fun h29 => ?_) (fun h29 => ?_)
      · refine TL_grun rfl rfl ?_
        refine TL_y rfl rfl (Y_move rfl) ?_
        refine TL_grun rfl rfl ?_
        refine TL_call rfl rfl (refVector_spec (slk (A := A) (c := c))) ?_
        rintro _ _ ⟨rfl, rfl⟩
        refine TL_y rfl rfl (Y_pick_t rfl rfl) ?_
        refine TL_name 32 (v' := .bool (!(st.bad || !decide (rVec xs)))) rfl (by have hb : st.bad = false := (by simpa using h29); rw [hb]; simp) ?_
        refine TL_y rfl rfl (Y_nil_check rfl) ?_
        refine TL_y rfl rfl (Y_field_addr rfl) ?_
        refine TL_store rfl rfl rfl rfl rfl rfl ?_
        refine TL_nil ?_
        refine T_region ?_
        refine TL_y rfl rfl (Y_move rfl) ?_
        refine TL_y rfl rfl (Y_assign rfl) ?_
        refine TL_nil ?_
        refine T_ret ?_
        refine RetQ.gives (rrd_close (A := Ar) (c := cr) b ⟨st.b, st.n, st.bad || !decide (rVec xs)⟩ rfl slk) ?_
        exact RetG_1 (.inl rfl) rfl (ResV.tmp rfl) GivesTo.g (⟨xs, A, c, _, rfl, rfl, vecR2 (hli.done (most := 7) (by decide) h0 hl hd)⟩)
      · refine TL_gskip rfl rfl rfl rfl ?_
        refine TL_gskip rfl rfl rfl rfl ?_
        refine TL_y rfl rfl (Y_pick_f rfl rfl) ?_
        refine TL_name 32 (v' := .bool (!(st.bad || !decide (rVec xs)))) rfl (by have hb : st.bad = true := (by simpa using h29); rw [hb]; rfl) ?_
        refine TL_y rfl rfl (Y_nil_check rfl) ?_
        refine TL_y rfl rfl (Y_field_addr rfl) ?_
        refine TL_store rfl rfl rfl rfl rfl rfl ?_
        refine TL_nil ?_
        refine T_region ?_
        refine TL_y rfl rfl (Y_move rfl) ?_
        refine TL_y rfl rfl (Y_assign rfl) ?_
        refine TL_nil ?_
        refine T_ret ?_
        refine RetQ.gives (rrd_close (A := Ar) (c := cr) b ⟨st.b, st.n, st.bad || !decide (rVec xs)⟩ rfl slk) ?_
        exact RetG_1 (.inl rfl) rfl (ResV.tmp rfl) GivesTo.g (⟨xs, A, c, _, rfl, rfl, vecR2 (hli.done (most := 7) (by decide) h0 hl hd)⟩)
  · refine TL_gskip rfl rfl rfl rfl ?_
    refine TL_gskip rfl rfl rfl rfl ?_
    refine TL_gskip rfl rfl rfl rfl ?_
    refine TL_gskip rfl rfl rfl rfl ?_
    refine TL_y rfl rfl (Y_pick_f rfl rfl) ?_
    refine TL_nil ?_
    refine T_cond_false rfl ?_
    refine T_exit ?_
    refine thenS_exit ?_
    refine thenS_exit ?_
    refine inB_hit ?_
    refine thenS_normal ?_
    have hd : xs.length = m ∨ st.bad = true := .inl (by omega)
    refine T_pullo A c ?_
    refine T_freeze_osl ?_
    refine T_pullk b ?_
    refine T_rrd fun Ar cr => ?_
    refine T_region ?_
    refine TL_y rfl rfl (Y_move rfl) ?_
    refine TL_y rfl rfl (Y_move rfl) ?_
    refine TL_y rfl rfl (Y_nil_check rfl) ?_
    refine TL_y rfl rfl (Y_field_addr rfl) ?_
    refine TL_y rfl rfl (Y_load rfl rfl) ?_
    refine TL_y rfl rfl (Y_move rfl) ?_
    refine TL_split 29 rfl (fun h29 => ?_) (fun h29 => ?_)
    · refine TL_grun rfl rfl ?_
      refine TL_y rfl rfl (Y_move rfl) ?_
      refine TL_grun rfl rfl ?_
      refine TL_call rfl rfl (refVector_spec (slk (A := A) (c := c))) ?_
      rintro _ _ ⟨rfl, rfl⟩
      refine TL_y rfl rfl (Y_pick_t rfl rfl) ?_
      refine TL_name 32 (v' := .bool (!(st.bad || !decide (rVec xs)))) rfl (by have hb : st.bad = false := (by simpa using h29); rw [hb]; simp) ?_
      refine TL_y rfl rfl (Y_nil_check rfl) ?_
      refine TL_y rfl rfl (Y_field_addr rfl) ?_
      refine TL_store rfl rfl rfl rfl rfl rfl ?_
      refine TL_nil ?_
      refine T_region ?_
      refine TL_y rfl rfl (Y_move rfl) ?_
      refine TL_y rfl rfl (Y_assign rfl) ?_
      refine TL_nil ?_
      refine T_ret ?_
      refine RetQ.gives (rrd_close (A := Ar) (c := cr) b ⟨st.b, st.n, st.bad || !decide (rVec xs)⟩ rfl slk) ?_
      exact RetG_1 (.inl rfl) rfl (ResV.tmp rfl) GivesTo.g (⟨xs, A, c, _, rfl, rfl, vecR2 (hli.done (most := 7) (by decide) h0 hl hd)⟩)
    · refine TL_gskip rfl rfl rfl rfl ?_
      refine TL_gskip rfl rfl rfl rfl ?_
      refine TL_y rfl rfl (Y_pick_f rfl rfl) ?_
      refine TL_name 32 (v' := .bool (!(st.bad || !decide (rVec xs)))) rfl (by have hb : st.bad = true := (by simpa using h29); rw [hb]; rfl) ?_
      refine TL_y rfl rfl (Y_nil_check rfl) ?_
      refine TL_y rfl rfl (Y_field_addr rfl) ?_
      refine TL_store rfl rfl rfl rfl rfl rfl ?_
      refine TL_nil ?_
      refine T_region ?_
      refine TL_y rfl rfl (Y_move rfl) ?_
      refine TL_y rfl rfl (Y_assign rfl) ?_
      refine TL_nil ?_
      refine T_ret ?_
      refine RetQ.gives (rrd_close (A := Ar) (c := cr) b ⟨st.b, st.n, st.bad || !decide (rVec xs)⟩ rfl slk) ?_
      exact RetG_1 (.inl rfl) rfl (ResV.tmp rfl) GivesTo.g (⟨xs, A, c, _, rfl, rfl, vecR2 (hli.done (most := 7) (by decide) h0 hl hd)⟩)
theorem rrballot_spec {L : List HP} {b : Nat} {s : RS} (hn : s.n + s.b.length ≤ 140737488355328) : Fn Tryz.prog 27 #[.pointer (some ⟨b, 0, none⟩)] (rrd b s :: L) (fun v L' => ∃ x s', v = pairV x ∧ L' = rrd b s' :: L ∧ RdR rBal rBal bBal s x s') := by
  refine Fn_enter Tryz.func27 rfl rfl rfl rfl ?_
  refine T_region ?_
  refine TL_alloc rfl rfl ?_
  intro b2
  refine TL_nil ?_
  refine T_region ?_
  refine TL_y rfl rfl (Y_build rfl rfl) ?_
  refine TL_alloc rfl rfl ?_
  intro b3
  refine TL_store rfl rfl rfl rfl rfl rfl ?_
  refine TL_nil ?_
  refine T_region ?_
  refine TL_y rfl rfl (Y_move rfl) ?_
  refine TL_pullk b ?_
  refine TL_call rfl rfl (rnumber_spec 2147483647 (by decide) hn) ?_
  rintro _ _ ⟨x0, s0, rfl, rfl, h0⟩
  have ht0 := h0.tot
  refine TL_y rfl rfl (Y_field_addr rfl) ?_
  refine TL_store rfl rfl rfl rfl rfl rfl ?_
  refine TL_nil ?_
  refine T_region ?_
  refine TL_y rfl rfl (Y_move rfl) ?_
  refine TL_pullk b ?_
  refine TL_call rfl rfl (rnumber_spec 6 (by decide) (by omega)) ?_
  rintro _ _ ⟨x1, s1, rfl, rfl, h1⟩
  refine TL_y rfl rfl (Y_field_addr rfl) ?_
  refine TL_store rfl rfl rfl rfl rfl rfl ?_
  refine TL_nil ?_
  refine T_region ?_
  refine TL_y rfl rfl (Y_load_agg rfl rfl) ?_
  refine TL_store rfl rfl rfl rfl rfl rfl ?_
  refine TL_nil ?_
  refine T_ret ?_
  exact RetG_1 (.inl rfl) rfl (ResV.agg rfl rfl) GivesTo.g (⟨(x0, x1), s1, rfl, rfl, h0.seq (pf_num (by decide)) h1⟩)
theorem rrseal_spec {L : List HP} {b : Nat} {s : RS} (hn : s.n + s.b.length ≤ 140737488355328) : Fn Tryz.prog 54 #[.pointer (some ⟨b, 0, none⟩)] (rrd b s :: L) (fun v L' => ∃ x A c s', v = .agg (List.toArray (orderC x (A, c))) ∧ L' = sl (intR .i64) A c x.cut :: rrd b s' :: L ∧ RdR rSeal orderOk' bSeal s x s') := by
  refine Fn_enter Tryz.func54 rfl rfl rfl rfl ?_
  refine T_region ?_
  refine TL_alloc rfl rfl ?_
  intro b2
  refine TL_nil ?_
  refine T_region ?_
  refine TL_y rfl rfl (Y_build rfl rfl) ?_
  refine TL_alloc rfl rfl ?_
  intro b3
  refine TL_store rfl rfl rfl rfl rfl rfl ?_
  refine TL_nil ?_
  refine T_region ?_
  refine TL_y rfl rfl (Y_move rfl) ?_
  refine TL_pullk b ?_
  refine TL_call rfl rfl (rrname_spec hn) ?_
  rintro _ _ ⟨x0, s0, rfl, rfl, h0⟩
  have ht0 := h0.tot
  refine TL_y rfl rfl (Y_field_addr rfl) ?_
  refine TL_store rfl rfl rfl rfl rfl rfl ?_
  refine TL_nil ?_
  refine T_region ?_
  refine TL_y rfl rfl (Y_move rfl) ?_
  refine TL_pullk b ?_
  refine TL_call rfl rfl (rrname_spec (by omega)) ?_
  rintro _ _ ⟨x1, s1, rfl, rfl, h1⟩
  have ht1 := h1.tot
  refine TL_y rfl rfl (Y_field_addr rfl) ?_
  refine TL_store rfl rfl rfl rfl rfl rfl ?_
  refine TL_nil ?_
  refine T_region ?_
  refine TL_y rfl rfl (Y_move rfl) ?_
  refine TL_pullk b ?_
  refine TL_call rfl rfl (rnumber_spec 2147483647 (by decide) (by omega)) ?_
  rintro _ _ ⟨x2, s2, rfl, rfl, h2⟩
  have ht2 := h2.tot
  refine TL_y rfl rfl (Y_field_addr rfl) ?_
  refine TL_store rfl rfl rfl rfl rfl rfl ?_
  refine TL_nil ?_
  refine T_region ?_
  refine TL_y rfl rfl (Y_move rfl) ?_
  refine TL_pullk b ?_
  refine TL_call rfl rfl (rrvector_spec (by omega)) ?_
  rintro _ _ ⟨x3, A3, c3, s3, rfl, rfl, h3⟩
  refine TL_y rfl rfl (Y_field_addr rfl) ?_
  refine TL_store rfl rfl rfl rfl rfl rfl ?_
  refine TL_nil ?_
  refine T_region ?_
  refine TL_y rfl rfl (Y_load_agg rfl rfl) ?_
  refine TL_store rfl rfl rfl rfl rfl rfl ?_
  refine TL_nil ?_
  refine T_ret ?_
  exact RetG_1 (.inl rfl) rfl (ResV.agg rfl rfl) GivesTo.g (⟨⟨x0, x1, x2, x3⟩, A3, c3, s3, rfl, rfl, sealR h0 h1 h2 h3⟩)
theorem rrentry_spec {L : List HP} {b : Nat} {s : RS} (hn : s.n + s.b.length ≤ 140737488355328) : Fn Tryz.prog 28 #[.pointer (some ⟨b, 0, none⟩)] (rrd b s :: L) (fun v L' => ∃ x A c s', v = .agg (List.toArray (entryC x (A, c))) ∧ L' = sl (intR .i64) A c x.order.cut :: rrd b s' :: L ∧ RdR rEntry entryIv bEntry s x s') := by
  refine Fn_enter Tryz.func28 rfl rfl rfl rfl ?_
  refine T_region ?_
  refine TL_alloc rfl rfl ?_
  intro b2
  refine TL_nil ?_
  refine T_seq ?_
  refine T_region ?_
  refine TL_y rfl rfl (Y_move rfl) ?_
  refine TL_pullk b ?_
  refine TL_call rfl rfl (rnumber_spec 1 (by decide) hn) ?_
  rintro _ _ ⟨x0, s0, rfl, rfl, h0⟩
  have ht0 := h0.tot
  have htr := truthR h0
  refine TL_y rfl rfl (Y_eq rfl rfl) ?_
  refine TL_nil ?_
  refine T_if rfl (fun h5 => ?_) (fun h5 => ?_)
  · rw [decide_eq_true h5] at htr
    refine T_region ?_
    refine TL_y rfl rfl (Y_build rfl rfl) ?_
    refine TL_store rfl rfl rfl rfl rfl rfl ?_
    refine TL_nil ?_
    refine T_ret ?_
    refine thenS_ret ?_
    refine RetQ.gives (slnil (A := none) (c := 0) (R := intR .i64)).lay ?_
    exact RetG_1 (.inl rfl) rfl (ResV.agg rfl rfl) GivesTo.g (⟨⟨true, ⟨⟨#[]⟩, ⟨#[]⟩, 0, []⟩⟩, none, 0, s0, rfl, rfl, entryR_t htr⟩)
  · rw [decide_eq_false h5] at htr
    refine T_skip ?_
    refine thenS_normal ?_
    refine T_region ?_
    refine TL_y rfl rfl (Y_move rfl) ?_
    refine TL_pullk b ?_
    refine TL_call rfl rfl (rrseal_spec (by omega)) ?_
    rintro _ _ ⟨x1, A1, c1, s1, rfl, rfl, h1⟩
    refine TL_y rfl rfl (Y_build rfl rfl) ?_
    refine TL_store rfl rfl rfl rfl rfl rfl ?_
    refine TL_nil ?_
    refine T_ret ?_
    exact RetG_1 (.inl rfl) rfl (ResV.agg rfl rfl) GivesTo.g (⟨⟨false, x1⟩, A1, c1, s1, rfl, rfl, entryR_f htr h1⟩)
theorem rrevent_spec {L : List HP} {b : Nat} {s : RS} (hn : s.n + s.b.length ≤ 140737488355328) : Fn Tryz.prog 30 #[.pointer (some ⟨b, 0, none⟩)] (rrd b s :: L) (fun v L' => ∃ x A c s', v = .agg (List.toArray (eventC x (A, c))) ∧ L' = sl (intR .i64) A c x.deps :: rrd b s' :: L ∧ RdR rEvent eventOk bEvent s x s') := by
  refine Fn_enter Tryz.func30 rfl rfl rfl rfl ?_
  refine T_region ?_
  refine TL_alloc rfl rfl ?_
  intro b2
  refine TL_nil ?_
  refine T_region ?_
  refine TL_y rfl rfl (Y_build rfl rfl) ?_
  refine TL_alloc rfl rfl ?_
  intro b3
  refine TL_store rfl rfl rfl rfl rfl rfl ?_
  refine TL_nil ?_
  refine T_region ?_
  refine TL_y rfl rfl (Y_move rfl) ?_
  refine TL_pullk b ?_
  refine TL_call rfl rfl (rnumber_spec 6 (by decide) hn) ?_
  rintro _ _ ⟨x0, s0, rfl, rfl, h0⟩
  have ht0 := h0.tot
  refine TL_y rfl rfl (Y_field_addr rfl) ?_
  refine TL_y rfl rfl (Y_field_addr rfl) ?_
  refine TL_store rfl rfl rfl rfl rfl rfl ?_
  refine TL_nil ?_
  refine T_region ?_
  refine TL_y rfl rfl (Y_move rfl) ?_
  refine TL_pullk b ?_
  refine TL_call rfl rfl (rnumber_spec 2147483647 (by decide) (by omega)) ?_
  rintro _ _ ⟨x1, s1, rfl, rfl, h1⟩
  have ht1 := h1.tot
  refine TL_y rfl rfl (Y_field_addr rfl) ?_
  refine TL_y rfl rfl (Y_field_addr rfl) ?_
  refine TL_store rfl rfl rfl rfl rfl rfl ?_
  refine TL_nil ?_
  refine T_region ?_
  refine TL_y rfl rfl (Y_move rfl) ?_
  refine TL_pullk b ?_
  refine TL_call rfl rfl (rrvector_spec (by omega)) ?_
  rintro _ _ ⟨x2, A2, c2, s2, rfl, rfl, h2⟩
  have ht2 := h2.tot
  refine TL_y rfl rfl (Y_field_addr rfl) ?_
  refine TL_store rfl rfl rfl rfl rfl rfl ?_
  refine TL_nil ?_
  refine T_region ?_
  refine TL_y rfl rfl (Y_move rfl) ?_
  refine TL_pullk b ?_
  refine TL_call rfl rfl (rrname_spec (by omega)) ?_
  rintro _ _ ⟨x3, s3, rfl, rfl, h3⟩
  have ht3 := h3.tot
  refine TL_y rfl rfl (Y_field_addr rfl) ?_
  refine TL_store rfl rfl rfl rfl rfl rfl ?_
  refine TL_nil ?_
  refine T_region ?_
  refine TL_y rfl rfl (Y_move rfl) ?_
  refine TL_pullk b ?_
  refine TL_call rfl rfl (rnumber_spec 2147483647 (by decide) (by omega)) ?_
  rintro _ _ ⟨x4, s4, rfl, rfl, h4⟩
  have ht4 := h4.tot
  refine TL_y rfl rfl (Y_field_addr rfl) ?_
  refine TL_store rfl rfl rfl rfl rfl rfl ?_
  refine TL_nil ?_
  refine T_region ?_
  refine TL_y rfl rfl (Y_move rfl) ?_
  refine TL_pullk b ?_
  refine TL_call rfl rfl (rrname_spec (by omega)) ?_
  rintro _ _ ⟨x5, s5, rfl, rfl, h5⟩
  have ht5 := h5.tot
  refine TL_y rfl rfl (Y_field_addr rfl) ?_
  refine TL_store rfl rfl rfl rfl rfl rfl ?_
  refine TL_nil ?_
  refine T_region ?_
  refine TL_y rfl rfl (Y_move rfl) ?_
  refine TL_pullk b ?_
  refine TL_call rfl rfl (rnumber_spec 1000 (by decide) (by omega)) ?_
  rintro _ _ ⟨x6, s6, rfl, rfl, h6⟩
  have ht6 := h6.tot
  refine TL_y rfl rfl (Y_field_addr rfl) ?_
  refine TL_store rfl rfl rfl rfl rfl rfl ?_
  refine TL_nil ?_
  refine T_region ?_
  refine TL_y rfl rfl (Y_move rfl) ?_
  refine TL_pullk b ?_
  refine TL_call rfl rfl (rnumber_spec 1 (by decide) (by omega)) ?_
  rintro _ _ ⟨x7, s7, rfl, rfl, h7⟩
  refine TL_y rfl rfl (Y_eq rfl rfl) ?_
  refine TL_y rfl rfl (Y_field_addr rfl) ?_
  refine TL_store rfl rfl rfl rfl rfl rfl ?_
  refine TL_nil ?_
  refine T_region ?_
  refine TL_y rfl rfl (Y_load_agg rfl rfl) ?_
  refine TL_store rfl rfl rfl rfl rfl rfl ?_
  refine TL_nil ?_
  refine T_ret ?_
  exact RetG_1 (.inl rfl) rfl (ResV.agg rfl rfl) GivesTo.g (⟨⟨(x0, x1), x2, x3, x4, x5, x6, decide (x7 = 1)⟩, A2, c2, s7, rfl, rfl, eventRd h0 h1 h2 h3 h4 h5 h6 (truthR h7)⟩)
end Go.SL
set_option linter.unusedVariables false
set_option linter.unusedSimpArgs false
namespace Go.SL
open Go Go.Proofs

instance intInDec (k : IntKind) (x : Int) : Decidable (intIn k x) := by unfold intIn; exact inferInstance
/-! ### Votes in memory -/
def vc (bs : List Bool) (n : Int) : List Value := bs.map Value.bool ++ [.int .i64 n]
/-- There is such a node. -/
def isV (n node : Int) : Prop := 0 ≤ node ∧ node < n
instance (n node : Int) : Decidable (isV n node) := by unfold isV; exact inferInstance
/-- It voted. -/
def hasV (bs : List Bool) (n node : Int) : Prop := isV n node ∧ bs[node.toNat]? = some true
instance (bs : List Bool) (n node : Int) : Decidable (hasV bs n node) := by unfold hasV; exact inferInstance
def addV (bs : List Bool) (n node : Int) : List Bool := if isV n node then bs.set node.toNat true else bs

end Go.SL
set_option linter.unusedVariables false
set_option linter.unusedSimpArgs false
namespace Go.SL
open Go Go.Proofs

def allTo (bs : List Bool) (n : Int) (k : Nat) : List Int := ((List.range k).filter fun i : Nat => decide (hasV bs n (i : Int))).map fun i : Nat => (i : Int)
/-- The nodes that voted. -/
def allV (bs : List Bool) (n : Int) : List Int := allTo bs n 7
end Go.SL
