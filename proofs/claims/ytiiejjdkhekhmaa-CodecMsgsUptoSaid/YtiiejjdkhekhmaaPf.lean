/- Codec: bytes tell records apart. Plain laws. -/
import Derived.Test.YtiiejjdkhekhmaaWrD
import Derived.Test.YtiiejjdkhekhmaaCodF
set_option linter.unusedVariables false
set_option linter.unusedSimpArgs false
namespace Go.SL
open Go Go.Proofs
def bNum (n : Int) : List Int := grp n.toNat
def bAll {α : Type} (b : α → List Int) (l : List α) : List Int := (l.map b).flatten
def bVec (v : List Int) : List Int := bNum (v.length : Int) ++ bAll bNum v
def bTruth (b : Bool) : List Int := bNum (if b then 1 else 0)
def bBal (a : Int × Int) : List Int := bNum a.1 ++ bNum a.2
def bSeal (x : OrderD) : List Int := txt x.token ++ (txt x.cart ++ (bNum x.epoch ++ bVec x.cut))
def bEntry (e : EntryD) : List Int := bTruth e.noop ++ (if e.noop = true then [] else bSeal e.order)
def bEvent (e : EventD) : List Int := bNum e.dot.1 ++ (bNum e.dot.2 ++ (bVec e.deps ++ (txt e.cart ++ (bNum e.epoch ++ (txt e.sku ++ (bNum e.qty ++ bTruth e.clears))))))
def bVoted (v : VotedD) : List Int := bNum v.slot ++ (bBal v.bal ++ bEntry v.en)
def bMsg (m : MsgD) : List Int := bNum m.kind ++ (bNum m.frm ++ (bNum m.to_ ++ (bBal m.bal ++ (bNum m.slot ++ (bEntry m.en ++ (bNum (m.voted.length : Int) ++ (bAll bVoted m.voted ++ (bVec m.seen ++ (bNum (m.events.length : Int) ++ (bAll bEvent m.events ++ bNum m.time))))))))))

/-! ### What is written -/
theorem wNum_ok {most n : Int} {s : WS} (hs : s.2 = false) (h : rNum most n) : wNum most n s = (s.1 ++ bNum n, false) := by
  unfold rNum at h; unfold wNum
  rw [if_neg (by omega), hs]; rfl
theorem wName_ok {t : ByteArray} {s : WS} (hs : s.2 = false) (h : isName t) : wName t s = (s.1 ++ txt t, false) := by
  have h2 := h.2.2
  unfold wName
  rw [wNum_ok (by simp [hs, h]) (by unfold rNum; omega)]
  simp [txt, bNum]
theorem wTruth_ok {b : Bool} {s : WS} (hs : s.2 = false) : wTruth b s = (s.1 ++ bTruth b, false) := by
  unfold wTruth; rw [wNum_ok hs (by cases b <;> simp [rNum])]; rfl
theorem wInts_ok : ∀ {v : List Int} {s : WS}, s.2 = false → (∀ n ∈ v, rNum 2147483647 n) → wInts v s = (s.1 ++ bAll bNum v, false)
  | [], s, hs, _ => by simp [wInts, bAll, ← hs]
  | n :: v, s, hs, h => by
    show wInts v (wNum 2147483647 n s) = _
    rw [wNum_ok hs (h n List.mem_cons_self), wInts_ok rfl (fun m hm => h m (List.mem_cons_of_mem _ hm))]
    simp [bAll]
theorem wVec_ok {v : List Int} {s : WS} (hs : s.2 = false) (h : rVec v) : wVec v s = (s.1 ++ bVec v, false) := by
  unfold wVec
  have h7 := h.2.1
  rw [wNum_ok (by simp [hs, h.2.2]) (by unfold rNum; omega), wInts_ok rfl h.1]
  simp [bVec]
theorem wBal_ok {a : Int × Int} {s : WS} (hs : s.2 = false) (h : rBal a) : wBal a s = (s.1 ++ bBal a, false) := by
  unfold wBal; rw [wNum_ok hs h.1, wNum_ok rfl h.2]; simp [bBal]
theorem wSeal_ok {x : OrderD} {s : WS} (hs : s.2 = false) (h : rSeal x) : wSeal x s = (s.1 ++ bSeal x, false) := by
  unfold wSeal; rw [wName_ok hs h.1, wName_ok rfl h.2.1, wNum_ok rfl h.2.2.1, wVec_ok rfl h.2.2.2]; simp [bSeal]
theorem wEntry_ok {e : EntryD} {s : WS} (hs : s.2 = false) (h : rEntry e) : wEntry e s = (s.1 ++ bEntry e, false) := by
  unfold rEntry at h
  unfold wEntry
  rw [wTruth_ok hs]
  simp only []
  split at h
  · rename_i hn; simp [bEntry, hn, h]
  · rename_i hn; rw [if_neg hn, wSeal_ok rfl h]; simp [bEntry, hn]
theorem wEvent_ok {e : EventD} {s : WS} (hs : s.2 = false) (h : rEvent e) : wEvent e s = (s.1 ++ bEvent e, false) := by
  obtain ⟨h1, h2, h3, h4, h5, h6, h7⟩ := h
  unfold wEvent; rw [wNum_ok hs h1, wNum_ok rfl h2, wVec_ok rfl h3, wName_ok rfl h4, wNum_ok rfl h5, wName_ok rfl h6, wNum_ok rfl h7, wTruth_ok rfl]; simp [bEvent]
theorem wVoted_ok {v : VotedD} {s : WS} (hs : s.2 = false) (h : rVoted v) : wVoted v s = (s.1 ++ bVoted v, false) := by
  unfold wVoted; rw [wNum_ok hs h.1, wBal_ok rfl h.2.1, wEntry_ok rfl h.2.2]; simp [bVoted]
theorem wVoteds_ok : ∀ {l : List VotedD} {s : WS}, s.2 = false → (∀ v ∈ l, rVoted v) → wVoteds l s = (s.1 ++ bAll bVoted l, false)
  | [], s, hs, _ => by simp [wVoteds, bAll, ← hs]
  | n :: v, s, hs, h => by
    show wVoteds v (wVoted n s) = _
    rw [wVoted_ok hs (h n List.mem_cons_self), wVoteds_ok rfl (fun m hm => h m (List.mem_cons_of_mem _ hm))]
    simp [bAll]
theorem wEvents_ok : ∀ {l : List EventD} {s : WS}, s.2 = false → (∀ v ∈ l, rEvent v) → wEvents l s = (s.1 ++ bAll bEvent l, false)
  | [], s, hs, _ => by simp [wEvents, bAll, ← hs]
  | n :: v, s, hs, h => by
    show wEvents v (wEvent n s) = _
    rw [wEvent_ok hs (h n List.mem_cons_self), wEvents_ok rfl (fun m hm => h m (List.mem_cons_of_mem _ hm))]
    simp [bAll]
theorem wMsg_ok {m : MsgD} {s : WS} (hs : s.2 = false) (h : rMsg m) : wMsg m s = (s.1 ++ bMsg m, false) := by
  obtain ⟨h1, h2, h3, h4, h5, h6, ⟨h7, h8⟩, h9, ⟨ha, hb⟩, hc⟩ := h
  unfold wMsg
  rw [wNum_ok hs h1, wNum_ok rfl h2, wNum_ok rfl h3, wBal_ok rfl h4, wNum_ok rfl h5, wEntry_ok rfl h6, wNum_ok (most := 4096) (n := (m.voted.length : Int)) rfl (by unfold rNum; omega), wVoteds_ok rfl h8, wVec_ok rfl h9, wNum_ok (most := 4096) (n := (m.events.length : Int)) rfl (by unfold rNum; omega), wEvents_ok rfl hb, wNum_ok rfl hc]
  simp [bMsg]

/-! ### No record's bytes begin another's -/
def PF {α : Type} (ok : α → Prop) (b : α → List Int) : Prop := ∀ x y r r', ok x → ok y → b x ++ r = b y ++ r' → x = y ∧ r = r'
theorem pf_grp {x y : Nat} {r r' : List Int} (hx : x < 18446744073709551616) (hy : y < 18446744073709551616) (h : grp x ++ r = grp y ++ r') : x = y ∧ r = r' := by
  have h1 := rdU_of_grp hx r
  rw [h] at h1
  obtain ⟨rfl, _, _⟩ := rdU_unique h1 (rdU_of_grp hy r')
  exact ⟨rfl, List.append_cancel_left h⟩
theorem pf_num {most : Int} (hm : most ≤ 4611686018427387904) : PF (rNum most) bNum := fun x y r r' hx hy h => by
  unfold rNum at hx hy
  obtain ⟨h1, h2⟩ := pf_grp (x := x.toNat) (y := y.toNat) (by omega) (by omega) h
  exact ⟨by omega, h2⟩
theorem pf_txt {s t : ByteArray} {r r' : List Int} (hs : s.size < 18446744073709551616) (ht : t.size < 18446744073709551616) (h : txt s ++ r = txt t ++ r') : s = t ∧ r = r' := by
  unfold txt at h
  rw [List.append_assoc, List.append_assoc] at h
  obtain ⟨h1, h2⟩ := pf_grp hs ht h
  obtain ⟨h3, h4⟩ := List.append_inj h2 (by rw [strBytes_length, strBytes_length, h1])
  exact ⟨strBytes_inj h3, h4⟩
theorem pf_name : PF isName txt := fun s t r r' hs ht h => pf_txt (by have := hs.2.2; omega) (by have := ht.2.2; omega) h
theorem pf_all {α : Type} {ok : α → Prop} {b : α → List Int} (hb : PF ok b) : ∀ (v w : List α) (r r' : List Int), v.length = w.length → (∀ x ∈ v, ok x) → (∀ x ∈ w, ok x) → bAll b v ++ r = bAll b w ++ r' → v = w ∧ r = r'
  | [], [], r, r', _, _, _, h => ⟨rfl, by simpa [bAll] using h⟩
  | [], y :: w, _, _, hl, _, _, _ => by simp at hl
  | x :: v, [], _, _, hl, _, _, _ => by simp at hl
  | x :: v, y :: w, r, r', hl, hv, hw, h => by
    simp only [bAll, List.map_cons, List.flatten_cons, List.append_assoc] at h
    obtain ⟨rfl, h2⟩ := hb x y _ _ (hv x List.mem_cons_self) (hw y List.mem_cons_self) h
    obtain ⟨rfl, h3⟩ := pf_all hb v w r r' (by simpa using hl) (fun x hx => hv x (List.mem_cons_of_mem _ hx)) (fun x hx => hw x (List.mem_cons_of_mem _ hx)) h2
    exact ⟨rfl, h3⟩
theorem pf_list {α : Type} {ok : α → Prop} {b : α → List Int} (hb : PF ok b) {v w : List α} {r r' : List Int} (hl : v.length ≤ 4096) (hl2 : w.length ≤ 4096) (hv : ∀ x ∈ v, ok x) (hw : ∀ x ∈ w, ok x) (h : bNum (v.length : Int) ++ (bAll b v ++ r) = bNum (w.length : Int) ++ (bAll b w ++ r')) : v = w ∧ r = r' := by
  obtain ⟨h1, h2⟩ := pf_num (most := 4096) (by decide) _ _ _ _ (by unfold rNum; omega) (by unfold rNum; omega) h
  exact pf_all hb v w r r' (by omega) hv hw h2
theorem pf_vec : PF rVec bVec := fun v w r r' hv hw h => by
  unfold bVec at h
  rw [List.append_assoc, List.append_assoc] at h
  have h7 := hv.2.1; have h8 := hw.2.1
  exact pf_list (pf_num (most := 2147483647) (by decide)) (by omega) (by omega) hv.1 hw.1 h
theorem pf_bal : PF rBal bBal := fun v w r r' hv hw h => by
  unfold bBal at h
  rw [List.append_assoc, List.append_assoc] at h
  obtain ⟨h1, h⟩ := pf_num (by decide) _ _ _ _ hv.1 hw.1 h
  obtain ⟨h2, h⟩ := pf_num (by decide) _ _ _ _ hv.2 hw.2 h
  exact ⟨Prod.ext h1 h2, h⟩
theorem pf_truth {a b : Bool} {r r' : List Int} (h : bTruth a ++ r = bTruth b ++ r') : a = b ∧ r = r' := by
  obtain ⟨h1, h2⟩ := pf_num (most := 1) (by decide) _ _ _ _ (by cases a <;> simp [rNum]) (by cases b <;> simp [rNum]) h
  exact ⟨by cases a <;> cases b <;> simp at h1 ⊢, h2⟩
theorem pf_seal : PF rSeal bSeal := fun v w r r' hv hw h => by
  unfold bSeal at h
  simp only [List.append_assoc] at h
  obtain ⟨h1, h⟩ := pf_name _ _ _ _ hv.1 hw.1 h
  obtain ⟨h2, h⟩ := pf_name _ _ _ _ hv.2.1 hw.2.1 h
  obtain ⟨h3, h⟩ := pf_num (by decide) _ _ _ _ hv.2.2.1 hw.2.2.1 h
  obtain ⟨h4, h⟩ := pf_vec _ _ _ _ hv.2.2.2 hw.2.2.2 h
  refine ⟨?_, h⟩
  cases v; cases w
  simp only at h1 h2 h3 h4
  subst h1; subst h2; subst h3; subst h4
  rfl
theorem some_none {x : OrderD} (h : someSeal x = false) : x = ⟨emptyS, emptyS, 0, []⟩ := by
  cases x with
  | mk t c n v =>
    simp only [someSeal, Bool.or_eq_false_iff, decide_eq_false_iff_not, Classical.not_not] at h
    obtain ⟨⟨⟨rfl, rfl⟩, rfl⟩, h⟩ := h
    obtain rfl : v = [] := List.eq_nil_of_length_eq_zero (by omega)
    rfl
theorem pf_entry : PF rEntry bEntry := fun v w r r' hv hw h => by
  unfold bEntry at h
  rw [List.append_assoc, List.append_assoc] at h
  obtain ⟨h1, h⟩ := pf_truth h
  unfold rEntry at hv hw
  cases v with
  | mk a x =>
  cases w with
  | mk b y =>
  simp only at h1 h hv hw
  subst h1
  cases a with
  | true =>
    simp only [if_true] at h hv hw
    rw [some_none hv, some_none hw]
    exact ⟨rfl, by simpa using h⟩
  | false =>
    simp only [Bool.false_eq_true, if_false] at h hv hw
    obtain ⟨hz, hy⟩ := pf_seal _ _ _ _ hv hw h
    subst hz
    exact ⟨rfl, hy⟩
theorem pf_event : PF rEvent bEvent := fun v w r r' hv hw h => by
  unfold bEvent at h
  simp only [List.append_assoc] at h
  obtain ⟨v1, v2, v3, v4, v5, v6, v7⟩ := hv
  obtain ⟨w1, w2, w3, w4, w5, w6, w7⟩ := hw
  obtain ⟨h1, h⟩ := pf_num (by decide) _ _ _ _ v1 w1 h
  obtain ⟨h2, h⟩ := pf_num (by decide) _ _ _ _ v2 w2 h
  obtain ⟨h3, h⟩ := pf_vec _ _ _ _ v3 w3 h
  obtain ⟨h4, h⟩ := pf_name _ _ _ _ v4 w4 h
  obtain ⟨h5, h⟩ := pf_num (by decide) _ _ _ _ v5 w5 h
  obtain ⟨h6, h⟩ := pf_name _ _ _ _ v6 w6 h
  obtain ⟨h7, h⟩ := pf_num (by decide) _ _ _ _ v7 w7 h
  obtain ⟨h8, h⟩ := pf_truth h
  refine ⟨?_, h⟩
  cases v; cases w
  simp only at h1 h2 h3 h4 h5 h6 h7 h8
  subst h3; subst h4; subst h5; subst h6; subst h7; subst h8
  rw [Prod.ext h1 h2]
theorem pf_voted : PF rVoted bVoted := fun v w r r' hv hw h => by
  unfold bVoted at h
  simp only [List.append_assoc] at h
  obtain ⟨h1, h⟩ := pf_num (by decide) _ _ _ _ hv.1 hw.1 h
  obtain ⟨h2, h⟩ := pf_bal _ _ _ _ hv.2.1 hw.2.1 h
  obtain ⟨h3, h⟩ := pf_entry _ _ _ _ hv.2.2 hw.2.2 h
  refine ⟨?_, h⟩
  cases v; cases w
  simp only at h1 h2 h3
  subst h1; subst h2; subst h3
  rfl
theorem pf_msg : PF rMsg bMsg := fun v w r r' hv hw h => by
  unfold bMsg at h
  simp only [List.append_assoc] at h
  obtain ⟨v1, v2, v3, v4, v5, v6, ⟨v7, v8⟩, v9, ⟨va, vb⟩, vc⟩ := hv
  obtain ⟨w1, w2, w3, w4, w5, w6, ⟨w7, w8⟩, w9, ⟨wa, wb⟩, wc⟩ := hw
  obtain ⟨h1, h⟩ := pf_num (by decide) _ _ _ _ v1 w1 h
  obtain ⟨h2, h⟩ := pf_num (by decide) _ _ _ _ v2 w2 h
  obtain ⟨h3, h⟩ := pf_num (by decide) _ _ _ _ v3 w3 h
  obtain ⟨h4, h⟩ := pf_bal _ _ _ _ v4 w4 h
  obtain ⟨h5, h⟩ := pf_num (by decide) _ _ _ _ v5 w5 h
  obtain ⟨h6, h⟩ := pf_entry _ _ _ _ v6 w6 h
  obtain ⟨h7, h⟩ := pf_list pf_voted v7 w7 v8 w8 h
  obtain ⟨h8, h⟩ := pf_vec _ _ _ _ v9 w9 h
  obtain ⟨h9, h⟩ := pf_list pf_event va wa vb wb h
  obtain ⟨ha, h⟩ := pf_num (by decide) _ _ _ _ vc wc h
  refine ⟨?_, h⟩
  cases v; cases w
  simp only at h1 h2 h3 h4 h5 h6 h7 h8 h9 ha
  subst h1; subst h2; subst h3; subst h4; subst h5; subst h6; subst h7; subst h8; subst h9; subst ha
  rfl
end Go.SL
