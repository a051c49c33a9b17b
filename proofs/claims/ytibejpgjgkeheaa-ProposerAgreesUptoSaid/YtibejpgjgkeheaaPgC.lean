/- What the laws of this claim need, together: the logic, data in memory, the walks of functions. -/
import Derived.Test.YtibejpgjgkeheaaPgB
import Derived.Carry
import Derived.SizedLaws
import Derived.OpenShut
import Derived.ProofKit
import Derived.RangeFuncRecord
import Derived.Ground.NamesProg
import Derived.Shelf.Lay
import Derived.Shelf.Sort.Plain
import Derived.Shelf.Slices.In.SortNone
set_option linter.unusedVariables false
set_option linter.unusedSimpArgs false
set_option linter.unusedVariables false
set_option linter.unusedSimpArgs false
namespace Go.SL
open Go Go.Proofs
def bNum (n : Int) : List Int := grp n.toNat
def bAll {α : Type} (b : α → List Int) (l : List α) : List Int := (l.map b).flatten
def bVec (v : List Int) : List Int := bNum (v.length : Int) ++ bAll bNum v
def bTruth (b : Bool) : List Int := bNum (if b then 1 else 0)
def bBal (a : Int × Int) : List Int := bNum a.1 ++ bNum a.2
def bSeal (x : OrderD) : List Int := txt x.token ++ (txt x.cart ++ (bNum x.epoch ++ bVec x.cut))
def bEntry (e : EntryD) : List Int := bTruth e.noop ++ (if e.noop = true then [] else bSeal e.order)
def bEvent (e : EventD) : List Int := bNum e.dot.1 ++ (bNum e.dot.2 ++ (bVec e.deps ++ (txt e.cart ++ (bNum e.epoch ++ (txt e.sku ++ (bNum e.qty ++ bTruth e.clears))))))
def bVoted (v : VotedD) : List Int := bNum v.slot ++ (bBal v.bal ++ bEntry v.en)
def bMsg (m : MsgD) : List Int := bNum m.kind ++ (bNum m.frm ++ (bNum m.to_ ++ (bBal m.bal ++ (bNum m.slot ++ (bEntry m.en ++ (bNum (m.voted.length : Int) ++ (bAll bVoted m.voted ++ (bVec m.seen ++ (bNum (m.events.length : Int) ++ (bAll bEvent m.events ++ bNum m.time))))))))))

/-! ### What is written -/
theorem wNum_ok {most n : Int} {s : WS} (hs : s.2 = false) (h : rNum most n) : wNum most n s = (s.1 ++ bNum n, false) := by
  unfold rNum at h; unfold wNum
  rw [if_neg (by omega), hs]; rfl
theorem wName_ok {t : ByteArray} {s : WS} (hs : s.2 = false) (h : isName t) : wName t s = (s.1 ++ txt t, false) := by
  have h2 := h.2.2
  unfold wName
  rw [wNum_ok (by simp [hs, h]) (by unfold rNum; omega)]
  simp [txt, bNum]
theorem wTruth_ok {b : Bool} {s : WS} (hs : s.2 = false) : wTruth b s = (s.1 ++ bTruth b, false) := by
  unfold wTruth; rw [wNum_ok hs (by cases b <;> simp [rNum])]; rfl
theorem wInts_ok : ∀ {v : List Int} {s : WS}, s.2 = false → (∀ n ∈ v, rNum 2147483647 n) → wInts v s = (s.1 ++ bAll bNum v, false)
  | [], s, hs, _ => by simp [wInts, bAll, ← hs]
  | n :: v, s, hs, h => by
    show wInts v (wNum 2147483647 n s) = _
    rw [wNum_ok hs (h n List.mem_cons_self), wInts_ok rfl (fun m hm => h m (List.mem_cons_of_mem _ hm))]
    simp [bAll]
theorem wVec_ok {v : List Int} {s : WS} (hs : s.2 = false) (h : rVec v) : wVec v s = (s.1 ++ bVec v, false) := by
  unfold wVec
  have h7 := h.2.1
  rw [wNum_ok (by simp [hs, h.2.2]) (by unfold rNum; omega), wInts_ok rfl h.1]
  simp [bVec]
theorem wBal_ok {a : Int × Int} {s : WS} (hs : s.2 = false) (h : rBal a) : wBal a s = (s.1 ++ bBal a, false) := by
  unfold wBal; rw [wNum_ok hs h.1, wNum_ok rfl h.2]; simp [bBal]
theorem wSeal_ok {x : OrderD} {s : WS} (hs : s.2 = false) (h : rSeal x) : wSeal x s = (s.1 ++ bSeal x, false) := by
  unfold wSeal; rw [wName_ok hs h.1, wName_ok rfl h.2.1, wNum_ok rfl h.2.2.1, wVec_ok rfl h.2.2.2]; simp [bSeal]
theorem wEntry_ok {e : EntryD} {s : WS} (hs : s.2 = false) (h : rEntry e) : wEntry e s = (s.1 ++ bEntry e, false) := by
  unfold rEntry at h
  unfold wEntry
  rw [wTruth_ok hs]
  simp only []
  split at h
  · rename_i hn; simp [bEntry, hn, h]
  · rename_i hn; rw [if_neg hn, wSeal_ok rfl h]; simp [bEntry, hn]
theorem wEvent_ok {e : EventD} {s : WS} (hs : s.2 = false) (h : rEvent e) : wEvent e s = (s.1 ++ bEvent e, false) := by
  obtain ⟨h1, h2, h3, h4, h5, h6, h7⟩ := h
  unfold wEvent; rw [wNum_ok hs h1, wNum_ok rfl h2, wVec_ok rfl h3, wName_ok rfl h4, wNum_ok rfl h5, wName_ok rfl h6, wNum_ok rfl h7, wTruth_ok rfl]; simp [bEvent]
theorem wVoted_ok {v : VotedD} {s : WS} (hs : s.2 = false) (h : rVoted v) : wVoted v s = (s.1 ++ bVoted v, false) := by
  unfold wVoted; rw [wNum_ok hs h.1, wBal_ok rfl h.2.1, wEntry_ok rfl h.2.2]; simp [bVoted]
theorem wVoteds_ok : ∀ {l : List VotedD} {s : WS}, s.2 = false → (∀ v ∈ l, rVoted v) → wVoteds l s = (s.1 ++ bAll bVoted l, false)
  | [], s, hs, _ => by simp [wVoteds, bAll, ← hs]
  | n :: v, s, hs, h => by
    show wVoteds v (wVoted n s) = _
    rw [wVoted_ok hs (h n List.mem_cons_self), wVoteds_ok rfl (fun m hm => h m (List.mem_cons_of_mem _ hm))]
    simp [bAll]
theorem wEvents_ok : ∀ {l : List EventD} {s : WS}, s.2 = false → (∀ v ∈ l, rEvent v) → wEvents l s = (s.1 ++ bAll bEvent l, false)
  | [], s, hs, _ => by simp [wEvents, bAll, ← hs]
  | n :: v, s, hs, h => by
    show wEvents v (wEvent n s) = _
    rw [wEvent_ok hs (h n List.mem_cons_self), wEvents_ok rfl (fun m hm => h m (List.mem_cons_of_mem _ hm))]
    simp [bAll]
theorem wMsg_ok {m : MsgD} {s : WS} (hs : s.2 = false) (h : rMsg m) : wMsg m s = (s.1 ++ bMsg m, false) := by
  obtain ⟨h1, h2, h3, h4, h5, h6, ⟨h7, h8⟩, h9, ⟨ha, hb⟩, hc⟩ := h
  unfold wMsg
  rw [wNum_ok hs h1, wNum_ok rfl h2, wNum_ok rfl h3, wBal_ok rfl h4, wNum_ok rfl h5, wEntry_ok rfl h6, wNum_ok (most := 4096) (n := (m.voted.length : Int)) rfl (by unfold rNum; omega), wVoteds_ok rfl h8, wVec_ok rfl h9, wNum_ok (most := 4096) (n := (m.events.length : Int)) rfl (by unfold rNum; omega), wEvents_ok rfl hb, wNum_ok rfl hc]
  simp [bMsg]

/-! ### No record's bytes begin another's -/
def PF {α : Type} (ok : α → Prop) (b : α → List Int) : Prop := ∀ x y r r', ok x → ok y → b x ++ r = b y ++ r' → x = y ∧ r = r'
theorem pf_grp {x y : Nat} {r r' : List Int} (hx : x < 18446744073709551616) (hy : y < 18446744073709551616) (h : grp x ++ r = grp y ++ r') : x = y ∧ r = r' := by
  have h1 := rdU_of_grp hx r
  rw [h] at h1
  obtain ⟨rfl, _, _⟩ := rdU_unique h1 (rdU_of_grp hy r')
  exact ⟨rfl, List.append_cancel_left h⟩
theorem pf_num {most : Int} (hm : most ≤ 4611686018427387904) : PF (rNum most) bNum := fun x y r r' hx hy h => by
  unfold rNum at hx hy
  obtain ⟨h1, h2⟩ := pf_grp (x := x.toNat) (y := y.toNat) (by omega) (by omega) h
  exact ⟨by omega, h2⟩
theorem some_none {x : OrderD} (h : someSeal x = false) : x = ⟨emptyS, emptyS, 0, []⟩ := by
  cases x with
  | mk t c n v =>
    simp only [someSeal, Bool.or_eq_false_iff, decide_eq_false_iff_not, Classical.not_not] at h
    obtain ⟨⟨⟨rfl, rfl⟩, rfl⟩, h⟩ := h
    obtain rfl : v = [] := List.eq_nil_of_length_eq_zero (by omega)
    rfl
end Go.SL
set_option linter.unusedVariables false
set_option linter.unusedSimpArgs false
set_option linter.unusedSectionVars false
namespace Go.SL
open Go Go.Lib
/-- The elements' words are of M, their cells lie in N. -/
def sliceAt2 {α : Type} (M N : Mem) (R : Rep α) (A : Option Addr) (c : Nat) (xs : List α) : Prop :=
  xs.length ≤ c ∧ xs.length ≤ maxEl ∧ (xs = [] ∨ ∃ b o, A = some ⟨b, o, none⟩ ∧ ∃ cs t fr, N b = some (.cells cs t fr) ∧ ∀ i x, xs[i]? = some x → ∃ l, R.rep M x l ∧ ∀ j v, l[j]? = some v → cs[o + i * R.sz + j]? = some v)
def SlN {α : Type} (L : List HP) (R : Rep α) (A : Option Addr) (c : Nat) (xs : List α) : Prop := ∀ M h N, M.disj h → Sep L M h → M.le N → h.le N → sliceAt2 M N R A c xs
section
variable {α : Type} {R : Rep α} {A : Option Addr} {c : Nat} {xs : List α} {L L' : List HP}
theorem SlK.n (h : SlK L R A c xs) : SlN L R A c xs := fun M k N hd hs hM hk => by
  obtain ⟨a, b, e⟩ := h M k hs
  refine ⟨a, b, e.imp id ?_⟩
  rintro ⟨b, o, rfl, cs, t, fr, hb, hall⟩
  exact ⟨b, o, rfl, cs, t, fr, hM _ _ hb, hall⟩
theorem SlN.tail {p : HP} (h : SlN L R A c xs) : SlN (p :: L) R A c xs := fun M k N hd ⟨h1, h2, hd', l1, l2, hp, hs⟩ hM hk => h M h2 N (Mem.disj_le hd (Mem.le_refl _) l2) hs hM (Mem.le_trans l2 hk)
theorem SlN.of_gives (g : Gives L L') (h : SlN L' R A c xs) : SlN L R A c xs := fun M k N hd hs hM hk => h M k N hd (g M k hs) hM hk
theorem osl_n {t : TypeId} : SlN (osl R t A c xs :: L) R A c xs := fun M k N hd ⟨h1, h2, hd', l1, l2, hp, hs⟩ hM hk => by
  refine ⟨?_, hp.1, ?_⟩
  · rcases hp.2 with ⟨rfl, rfl⟩ | ⟨g, cur, _, _, _, hl, _⟩
    · simp
    · exact hl
  · rcases hp.2 with ⟨_, e⟩ | ⟨g, cur, e, hg, hsz, hl, hc, hx⟩
    · exact .inl e
    · exact .inr ⟨g, 0, e, cur, t, (0, 0), hk _ _ (l1 _ _ hg), fun i x hi => let ⟨l, a, b⟩ := hx i x hi; ⟨l, a, fun j v hj => by rw [Nat.zero_add]; exact b j v hj⟩⟩
theorem SlN.nil : SlN L R A c ([] : List α) := fun M k N _ _ _ _ => ⟨Nat.zero_le _, Nat.zero_le _, .inl rfl⟩
theorem SlN.len (h : SlN L R A c xs) {W w : World} (hs : Sat W w L) : xs.length ≤ c ∧ xs.length ≤ maxEl := by
  obtain ⟨M, k, hd, hM, hk, hsep⟩ := hs.ex
  have := h M k (heapOf w) hd hsep hM hk
  exact ⟨this.1, this.2.1⟩
end
class FindN (L : List HP) (A : Option Addr) (c : Nat) (α : outParam Type) (R : outParam (Rep α)) (xs : outParam (List α)) : Prop where
  k : SlN L R A c xs
instance findN_tail {p : HP} {L : List HP} {A : Option Addr} {c : Nat} {α : Type} {R : Rep α} {xs : List α} [h : FindN L A c α R xs] : FindN (p :: L) A c α R xs := ⟨h.k.tail⟩
instance findN_sl {L : List HP} {A : Option Addr} {c : Nat} {α : Type} {R : Rep α} {xs : List α} : FindN (sl R A c xs :: L) A c α R xs := ⟨SlK.n (Knows.head' fun _ _ h => h)⟩
instance findN_osl {L : List HP} {A : Option Addr} {c : Nat} {α : Type} {R : Rep α} {t : TypeId} {xs : List α} : FindN (osl R t A c xs :: L) A c α R xs := ⟨osl_n⟩
theorem sln {L : List HP} {A : Option Addr} {c : Nat} {α : Type} {R : Rep α} {xs : List α} [h : FindN L A c α R xs] : SlN L R A c xs := h.k
section
variable {r : Option Nat} {n : Nat} {P : Program} {ops : Array Oper} {rest : List Oper} {K : St → Prop} {Q : Exit → St → Prop} {D : List Deferred} {E : Env} {L L' : List HP} {d : Nat} {ty : TypeId} {pos : String} {af : Array Edge}
variable {α : Type} {R : Rep α} {A : Option Addr} {c : Nat} {xs ys : List α}
theorem SlN.lens {c' : Code} (hk : SlN L R A c xs) (h : xs.length ≤ c ∧ xs.length ≤ maxEl → T r n P c' ⟨D, E, L⟩ Q) : T r n P c' ⟨D, E, L⟩ Q := fun W a w hh => h (hk.len hh.2) W a w hh
theorem SlN.lensL (hk : SlN L R A c xs) (h : xs.length ≤ c ∧ xs.length ≤ maxEl → TL r n P ops rest ⟨D, E, L⟩ K) : TL r n P ops rest ⟨D, E, L⟩ K := fun W a w hh => h (hk.len hh.2) W a w hh
theorem SlN.none_nil {c' : Code} (hk : SlN L R none c xs) (h : xs = [] → T r n P c' ⟨D, E, L⟩ Q) : T r n P c' ⟨D, E, L⟩ Q := fun W a w hh => by
  obtain ⟨M, k, hd, hM, hk', hsep⟩ := hh.2.ex
  rcases (hk M k (heapOf w) hd hsep hM hk').2.2 with e | ⟨b, o, e, _⟩
  · exact h e W a w hh
  · cases e
theorem cells_of_slice2 {M N : Mem} {w : World} (hN : N.le (heapOf w)) (h : sliceAt2 M N R A c xs) : ∃ cs, CellsOf M R xs cs ∧ (xs.length = 0 ∨ ∃ a, A = some a ∧ ∀ j v, cs[j]? = some v → w.cell? (a.add j) = some v) := by
  rcases h.2.2 with rfl | ⟨b, o, rfl, cur, t, fr, hb, hall⟩
  · exact ⟨[], rfl, .inl rfl⟩
  · obtain ⟨cs, h1, h2⟩ := cells_of_array (R := R) (M := M) (cur := cur) (o := o) (xs := xs) (k := 0) (fun i x hi => by
      obtain ⟨l, a, b⟩ := hall i x hi
      exact ⟨l, a, fun j v hj => by rw [Nat.zero_add]; exact b j v hj⟩)
    refine ⟨cs, h1, .inr ⟨_, rfl, fun j v hj => ?_⟩⟩
    rw [Addr.add_plain, cell_of (hN _ _ hb)]
    simpa using h2 j v hj
/-- append to a slice that is ours of one that is read. -/
theorem TL_append_n {x y : Operand} {t u e : TypeId} {z : Value} {bytes c2 : Nat} {A2 : Option Addr} {L0 : List HP} [ht : TyDesc P t (.slice e)] [hu : TyDesc P u (.slice e)] (hd : Nat.blt d n = true) (hx : ev E x = some (.slice A xs.length c)) (hy : ev E y = some (.slice A2 ys.length c2)) [hf : FindO L A c α R e xs L0]
    [he : TyElem P e z R.sz bytes] (hz : z.cells.size = R.sz) (hb : Nat.blt 0 bytes = true) (hsrc : SlN L0 R A2 c2 ys) (hfit : (xs.length + ys.length) * bytes ≤ 140737488355328)
    (h : ∀ A' c', TL r n P ops rest ⟨D, (d, .slice A' (xs ++ ys).length c') :: E, osl R e A' c' (xs ++ ys) :: L0⟩ K) :
    TL r n P ops (⟨some d, .call { callee := .builtin .append, args := #[x, y], argTypes := #[t, u] }, ty, pos, af, none⟩ :: rest) ⟨D, E, L⟩ K :=
  TL_val rfl hd rfl (fun _ e => by cases e) fun W a w hh => by
    have hs := hh.2.gives hf.g
    obtain ⟨M', k', hd1', hM', hk', g1, g2, gd, m1, m2, hp, hsep'⟩ := hs.ex
    obtain ⟨cs, h1, h2⟩ := cells_of_slice2 (Mem.le_refl _) (hsrc M' g2 (heapOf w) (Mem.disj_le hd1' (Mem.le_refl _) m2) hsep' hM' (Mem.le_trans m2 hk'))
    have hsl : Src P u R.sz (.slice A2 ys.length c2) ys.length cs w := src_slice (u := u) (e := e) h2 h1.length h1.one
    have hsat : Sat W w (osl R e A c xs :: pers (fun M => CellsOf M R ys cs) (fun hM h => cellsOf_mono hM h) :: L0) :=
      ⟨⟨M', k', hd1', hM', hk', g1, g2, gd, m1, m2, hp, Mem.emp, g2, Mem.emp_disj _, Mem.emp_le _, Mem.le_refl _, h1, hsep'⟩, hs.os, hs.tape, hs.output, hs.size⟩
    obtain ⟨A', c', w', hr, hs'⟩ := append_own (P := P) (t := t) (u := u) (by simpa using hb) hz hsat hsl (fun N m hm _ => by obtain ⟨_, _, _, _, _, hp, _⟩ := hm; exact hp) hfit ty
    refine ⟨_, w', _, ?_, hs'.gives (Gives.cons _ (Gives.drop _ _)), h A' c'⟩
    simp [execOp, resolve, invoke, builtin, hh.1.ev hx, hh.1.ev hy, hr]
/-! ### Elements, wherever they lie -/
theorem TL_index_n {x i : Operand} {t e : TypeId} {ik : IntKind} {j k : Nat} {u : α} [ht : TyDesc P t (.slice e)] [hz : TySize P e R.sz] (hd : Nat.blt d n = true) (hx : ev E x = some (.slice A k c)) (hi : ev E i = some (.int ik (j : Int))) (hkl : k = xs.length) (hk : SlN L R A c xs) (hu : xs[j]? = some u)
    (h : ∀ b o, A = some ⟨b, o, none⟩ → SlN L R (some ⟨b, o, none⟩) c xs → TL r n P ops rest ⟨D, (d, .pointer (some ⟨b, o + j * R.sz + 0, none⟩)) :: E, L⟩ K) : TL r n P ops (⟨some d, .indexAddr t x i, ty, pos, af, none⟩ :: rest) ⟨D, E, L⟩ K := fun W a w hh => by
  subst hkl
  obtain ⟨M, q, hd', hM, hq, hsep⟩ := hh.2.ex
  rcases (hk M q (heapOf w) hd' hsep hM hq).2.2 with e | ⟨b, o, e, _⟩
  · rw [e] at hu; simp at hu
  · subst e
    have hlt : j < xs.length := (List.getElem?_eq_some_iff.1 hu).1
    exact TL_y hd rfl (Y_index_at hx hi hlt (b := b) (o := o + j * R.sz) ⟨o, rfl, rfl⟩) (h b o rfl hk) W a w hh
theorem Y_index_n {x i : Operand} {t e : TypeId} {ik : IntKind} {j k b o : Nat} {u : α} [ht : TyDesc P t (.slice e)] [hz : TySize P e R.sz] (hx : ev E x = some (.slice (some ⟨b, o, none⟩) k c)) (hi : ev E i = some (.int ik (j : Int))) (hkl : k = xs.length) (hu : xs[j]? = some u) :
    Yl P E L (.indexAddr t x i) ty (.pointer (some ⟨b, o + j * R.sz + 0, none⟩)) := by
  subst hkl
  have hlt : j < xs.length := (List.getElem?_eq_some_iff.1 hu).1
  exact Y_index_at hx hi hlt (b := b) (o := o + j * R.sz) ⟨o, rfl, rfl⟩
/-- Where a slice lies that is not empty. -/
theorem T_addr_n {c' : Code} {j : Nat} {u : α} (hk : SlN L R A c xs) (hu : xs[j]? = some u) (h : ∀ b o, A = some ⟨b, o, none⟩ → T r n P c' ⟨D, E, L⟩ Q) : T r n P c' ⟨D, E, L⟩ Q := fun W a w hh => by
  obtain ⟨M, q, hd', hM, hq, hsep⟩ := hh.2.ex
  rcases (hk M q (heapOf w) hd' hsep hM hq).2.2 with e | ⟨b, o, e, _⟩
  · rw [e] at hu; simp at hu
  · exact h b o e W a w hh
theorem elem_n {b o j : Nat} {u : α} (hk : SlN L R (some ⟨b, o, none⟩) c xs) (hu : xs[j]? = some u) {W w : World} (hs : Sat W w L) : ∃ l, l.length = R.sz ∧ Sat W w (is R u l :: L) ∧ ∀ q v, l[q]? = some v → w.cell? ⟨b, o + j * R.sz + q, none⟩ = some v := by
  obtain ⟨M, k, hd', hM, hq, hsep⟩ := hs.ex
  rcases (hk M k (heapOf w) hd' hsep hM hq).2.2 with e | ⟨b', o', e, cs, t, fr, hb, hall⟩
  · rw [e] at hu; simp at hu
  · cases e
    obtain ⟨l, hl, hc⟩ := hall j u hu
    refine ⟨l, R.len hl, ⟨⟨M, k, hd', hM, hq, Mem.emp, k, Mem.emp_disj _, Mem.emp_le _, Mem.le_refl _, hl, hsep⟩, hs.os, hs.tape, hs.output, hs.size⟩, fun q v hv => ?_⟩
    rw [cell_of hb]
    exact hc q v hv
theorem run_load_at {t : TypeId} {b o q m : Nat} {l vs : List Value} {w : World} [ht : TyAgg P t true] [hz : TySize P t m] (hc : ∀ q v, l[q]? = some v → w.cell? ⟨b, o + q, none⟩ = some v) (hv : cutN q m l = some vs) : (loadVar t ⟨b, o + q, none⟩).run P w = .ok (.agg vs.toArray) w := by
  obtain ⟨e, hl⟩ := cutN_eq hv
  refine run_loadVar_agg (hk := by rw [e]; simp; omega) (fun i v hi => ?_)
  rw [e, List.getElem?_take] at hi
  split at hi
  · rw [List.getElem?_drop] at hi
    have := hc _ _ hi
    rwa [Nat.add_assoc]
  · cases hi
section ex
variable {β : Type} {sz : Nat} {f : α → β → List Value} {g : α → β → List HP} {ok : α → Prop} {hlen : ∀ x p, (f x p).length = sz} {hone : ∀ x p, oneN (f x p) = true}
theorem sat_ex {u : α} {l : List Value} {W w : World} (h : Sat W w (is (exR sz f g ok hlen hone) u l :: L)) : ∃ p, l = f u p ∧ ok u ∧ Sat W w (g u p ++ L) := by
  obtain ⟨M, k, hd, hM, hk, h3, h4, hd2, l3, l4, ⟨p, e, hs, hok⟩, hL⟩ := h.ex
  exact ⟨p, e, hok, ⟨M, k, hd, hM, hk, sep_app hs (Sep.mono (Mem.le_refl _) l4 hL)⟩, h.os, h.tape, h.output, h.size⟩
/-- Of elements that hold slices: a part of several cells. -/
theorem TL_load_nx {x : Operand} {t : TypeId} {b o j q m : Nat} {u : α} {vs : β → List Value} [ht : TyAgg P t true] [hz : TySize P t m] (hd : Nat.blt d n = true) (hx : ev E x = some (.pointer (some ⟨b, o + j * sz + q, none⟩))) (hk : SlN L (exR sz f g ok hlen hone) (some ⟨b, o, none⟩) c xs) (hu : xs[j]? = some u) (hv : ∀ p, cutN q m (f u p) = some (vs p))
    (h : ∀ p, ok u → TL r n P ops rest ⟨D, (d, .agg (vs p).toArray) :: E, g u p ++ L⟩ K) : TL r n P ops (⟨some d, .load t x, ty, pos, af, none⟩ :: rest) ⟨D, E, L⟩ K :=
  TL_val rfl hd rfl (fun _ e => by cases e) fun W a w hh => by
    obtain ⟨l, hl, hs, hc⟩ := elem_n hk hu hh.2
    obtain ⟨p, rfl, hok, hs2⟩ := sat_ex hs
    have hc : ∀ (q : Nat) (v : Value), (f u p)[q]? = some v → w.cell? ⟨b, o + j * sz + q, none⟩ = some v := hc
    exact ⟨_, w, _, by simp only [execOp, hh.1.ev hx, Instr.loadAt, Instr.sureAddr, Sem.run_bind, Sem.run_pure, Result.andThen_ok, run_load_at hc (hv p)], hs2, h p hok⟩
/-- One cell that tells of no slice: it only reckons. -/
theorem Y_load_nx {x : Operand} {t : TypeId} {b o j q : Nat} {u : α} {v : Value} [ht : TyAgg P t false] (hx : ev E x = some (.pointer (some ⟨b, o + j * sz + q, none⟩))) (hk : SlN L (exR sz f g ok hlen hone) (some ⟨b, o, none⟩) c xs) (hu : xs[j]? = some u) (hv : ∀ p, cellN (f u p) q = some v) : Yl P E L (.load t x) ty v := fun n D W a w dst pos af gd ha hs => by
  obtain ⟨l, hl, hs1, hc⟩ := elem_n hk hu hs
  obtain ⟨p, rfl, hok, hs2⟩ := sat_ex hs1
  have hc : ∀ (q : Nat) (v : Value), (f u p)[q]? = some v → w.cell? ⟨b, o + j * sz + q, none⟩ = some v := hc
  simp only [execOp, ha.ev hx, Instr.loadAt, Instr.sureAddr, Sem.run_bind, Sem.run_pure, Result.andThen_ok, run_loadVar_one (hc q _ (cellN_eq (hv p)))]
end ex
/-- Of elements that their cells tell: one cell; several. -/
theorem Y_load_n {x : Operand} {t : TypeId} {b o j q : Nat} {u : α} {v : Value} {f : α → List Value} [hf : RepF R f] [ht : TyAgg P t false] (hx : ev E x = some (.pointer (some ⟨b, o + j * R.sz + q, none⟩))) (hk : SlN L R (some ⟨b, o, none⟩) c xs) (hu : xs[j]? = some u) (hv : cellN (f u) q = some v) : Yl P E L (.load t x) ty v := fun n D W a w dst pos af gd ha hs => by
  obtain ⟨l, hl, hs1, hc⟩ := elem_n hk hu hs
  obtain ⟨M, k, _, _, _, h1, h2, _, _, _, hi, _⟩ := hs1.ex
  rw [hf.e _ _ _ hi] at hc
  simp only [execOp, ha.ev hx, Instr.loadAt, Instr.sureAddr, Sem.run_bind, Sem.run_pure, Result.andThen_ok, run_loadVar_one (hc q _ (cellN_eq hv))]
theorem SlN.take (h : SlN L R A c xs) (j : Nat) : SlN L R A c (xs.take j) := fun M k N hd hs hM hk => by
  obtain ⟨a, b, e⟩ := h M k N hd hs hM hk
  refine ⟨by rw [List.length_take]; omega, by rw [List.length_take]; omega, ?_⟩
  rcases e with e | ⟨b, o, e, cs, t, fr, hb, hall⟩
  · left; simp [e]
  · right
    refine ⟨b, o, e, cs, t, fr, hb, fun i x hi => hall i x ?_⟩
    rw [List.getElem?_take] at hi
    split at hi
    · exact hi
    · cases hi
theorem SlN.cut (h : SlN L R A c xs) (i j cap : Nat) (hij : i ≤ j) (hj : j ≤ xs.length) (hcap : j ≤ cap) : SlN L R (cutA A i cap R.sz) (cap - i) ((xs.take j).drop i) := fun M k N hd hs hM hk => by
  obtain ⟨a, b, e⟩ := h M k N hd hs hM hk
  have hlen : ((xs.take j).drop i).length = j - i := by simp; omega
  refine ⟨by rw [hlen]; omega, by rw [hlen]; omega, ?_⟩
  by_cases hij' : i = j
  · left; apply List.eq_nil_of_length_eq_zero; omega
  · rcases e with e | ⟨b, o, rfl, cs, t, fr, hb, hall⟩
    · subst e; left; simp
    · right
      refine ⟨b, o + i * R.sz, ?_, cs, t, fr, hb, fun k x hk => ?_⟩
      · unfold cutA; rw [if_neg (by omega)]; simp [Addr.add_plain]
      · rw [List.getElem?_drop, List.getElem?_take] at hk
        split at hk
        · obtain ⟨l, hl, hc⟩ := hall _ _ hk
          refine ⟨l, hl, fun q v hq => ?_⟩
          have := hc q v hq
          rwa [Nat.add_mul, ← Nat.add_assoc] at this
        · cases hk
theorem SlN.drop (h : SlN L R A c xs) {i : Nat} (hi : i ≤ xs.length) {W w : World} (hs : Sat W w L) : SlN L R (cutA A i c R.sz) (c - i) (xs.drop i) := by
  have h1 := h.len hs
  have := h.cut i xs.length c hi (Nat.le_refl _) h1.1
  rwa [List.take_length] at this
end
end Go.SL
set_option linter.unusedVariables false
set_option linter.unusedSimpArgs false
namespace Go.SL
open Go Go.Proofs
instance : DecidableEq OrderD := fun a b => decidable_of_iff (a.token = b.token ∧ a.cart = b.cart ∧ a.epoch = b.epoch ∧ a.cut = b.cut) (by cases a; cases b; simp)
instance : DecidableEq EntryD := fun a b => decidable_of_iff (a.noop = b.noop ∧ a.order = b.order) (by cases a; cases b; simp)
instance : DecidableEq VotedD := fun a b => decidable_of_iff (a.slot = b.slot ∧ a.bal = b.bal ∧ a.en = b.en) (by cases a; cases b; simp)
instance : DecidableEq EventD := fun a b => decidable_of_iff (a.dot = b.dot ∧ a.deps = b.deps ∧ a.cart = b.cart ∧ a.epoch = b.epoch ∧ a.sku = b.sku ∧ a.qty = b.qty ∧ a.clears = b.clears) (by cases a; cases b; simp)
theorem order_eq {a b : OrderD} : a = b ↔ a.token = b.token ∧ a.cart = b.cart ∧ a.epoch = b.epoch ∧ a.cut = b.cut := by cases a; cases b; simp
theorem entry_eq {a b : EntryD} : a = b ↔ a.noop = b.noop ∧ a.order = b.order := by cases a; cases b; simp
theorem take_step {xs ys : List Int} {i : Nat} {x y : Int} (h : xs.take i = ys.take i) (hx : xs[i]? = some x) (hy : ys[i]? = some y) (e : x = y) : xs.take (i + 1) = ys.take (i + 1) := by
  rw [List.take_add_one, List.take_add_one, h, hx, hy, e]
theorem take_all {α : Type} {xs ys : List α} {i : Nat} (h : xs.take i = ys.take i) (h1 : xs.length ≤ i) (h2 : ys.length ≤ i) : xs = ys := by
  rwa [List.take_of_length_le h1, List.take_of_length_le h2] at h
theorem sameVector_spec {L : List HP} {A B : Option Addr} {c d : Nat} {xs ys : List Int} (hk : SlN L (intR .i64) A c xs) (hk2 : SlN L (intR .i64) B d ys) : Fn Try.prog 70 #[.slice A xs.length c, .slice B ys.length d] L (fun v L' => v = .bool (decide (xs = ys)) ∧ L' = L) := by
  refine Fn_enter Try.func70 rfl rfl rfl rfl ?_
  refine hk.lens fun hl => ?_
  simp only [maxEl] at hl
  refine T_region ?_
  refine TL_y rfl rfl (Y_assign rfl) ?_
  refine TL_nil ?_
  refine T_seq ?_
  refine T_region ?_
  refine TL_y rfl rfl (Y_move rfl) ?_
  refine TL_y rfl rfl (Y_len rfl) ?_
  refine TL_y rfl rfl (Y_move rfl) ?_
  refine TL_y rfl rfl (Y_len rfl) ?_
  refine TL_y rfl rfl (Y_ne rfl rfl) ?_
  refine TL_nil ?_
  refine T_if rfl (fun h10 => ?_) (fun h10 => ?_)
  · refine T_region ?_
    refine TL_y rfl rfl (Y_assign rfl) ?_
    refine TL_nil ?_
    refine T_ret ?_
    refine thenS_ret ?_
    exact RetG_1 (.inl rfl) rfl (ResV.tmp rfl) GivesTo.g (⟨by rw [decide_eq_false]; rintro rfl; exact h10 rfl, rfl⟩)
  · refine T_skip ?_
    refine thenS_normal ?_
    refine T_seq ?_
    refine T_region ?_
    refine TL_y rfl rfl (Y_assign rfl) ?_
    refine TL_nil ?_
    refine T_block ?_
    refine T_loopK (σ := Nat) [0, 1] (fun i => i ≤ xs.length ∧ xs.take i = ys.take i) (fun i kv => (5, .int .i64 (i : Int)) :: kv) (fun i => L) (fun i => xs.length - i) (0) rfl (⟨Nat.zero_le _, rfl⟩) (GivesTo.g) (sub_cons rfl (sub_cons rfl (sub_cons rfl (sub_nil)))) ?_
    intro i hi
    refine T_seq ?_
    refine T_region ?_
    refine TL_y rfl rfl (Y_move rfl) ?_
    refine TL_y rfl rfl (Y_move rfl) ?_
    refine TL_y rfl rfl (Y_len rfl) ?_
    refine TL_y rfl rfl (Y_lt rfl rfl) ?_
    refine TL_nil ?_
    refine T_if rfl (fun h14 => ?_) (fun h14 => ?_)
    · refine T_skip ?_
      refine thenS_normal ?_
      refine T_seq ?_
      refine T_block ?_
      have hx := List.getElem?_eq_getElem (show i < xs.length by omega)
      have hy := List.getElem?_eq_getElem (show i < ys.length by omega)
      refine T_addr_n hk hx fun b1 o1 e1 => ?_
      refine T_addr_n hk2 hy fun b2 o2 e2 => ?_
      subst e1
      subst e2
      refine T_region_draw _ [0, 0, 3, 7, 0, 0, 48, 112, 255] [] [(0, true), (1, true), (2, true), (3, true), (4, true), (5, true), (6, true), (7, true), (8, true)] (by kernel_rfl) (by decide +kernel) (Gives.refl _) ?_
      refine TF_y rfl rfl (Y_move rfl) ?_
      refine TF_y rfl rfl (Y_move rfl) ?_
      refine TF_y rfl rfl (Y_index_n (R := intR .i64) (xs := xs) rfl rfl rfl hx) ?_
      refine TF_y rfl rfl (Y_load_n (q := 0) rfl hk hx rfl) ?_
      refine TF_y rfl rfl (Y_move rfl) ?_
      refine TF_y rfl rfl (Y_move rfl) ?_
      refine TF_y rfl rfl (Y_index_n (R := intR .i64) (xs := ys) rfl rfl rfl hy) ?_
      refine TF_y rfl rfl (Y_load_n (q := 0) rfl hk2 hy rfl) ?_
      refine TF_y rfl rfl (Y_ne rfl rfl) ?_
      refine TF_nil ?_
      refine T_if rfl (fun h25 => ?_) (fun h25 => ?_)
      · refine T_region ?_
        refine TL_y rfl rfl (Y_assign rfl) ?_
        refine TL_nil ?_
        refine T_ret ?_
        refine inB_ret ?_
        refine thenS_ret ?_
        refine thenS_ret ?_
        refine inB_ret ?_
        refine thenS_ret ?_
        exact RetG_1 (.inl rfl) rfl (ResV.tmp rfl) GivesTo.g (⟨by rw [decide_eq_false]; rintro rfl; exact h25 rfl, rfl⟩)
      · refine T_skip ?_
        refine inB_normal ?_
        refine thenS_normal ?_
        refine T_region_last ?_
        refine TL_y rfl rfl (Y_move rfl) ?_
        refine TL_y rfl rfl (Y_add rfl rfl (by omega)) ?_
        refine TL_name 16 (v' := .int .i64 ((i + 1 : Nat) : Int)) rfl (by simp) ?_
        refine TL_y rfl rfl (Y_assign rfl) ?_
        refine TL_nil ?_
        refine thenS_normal ?_
        exact ⟨i + 1, ⟨by omega, take_step hi.2 hx hy (Classical.not_not.1 h25)⟩, by omega, holds_to (sub_cons rfl (sub_cons rfl (sub_cons rfl (sub_nil)))) GivesTo.g⟩
    · refine T_exit ?_
      refine thenS_exit ?_
      refine thenS_exit ?_
      refine inB_hit ?_
      refine thenS_normal ?_
      refine T_region ?_
      refine TL_y rfl rfl (Y_assign rfl) ?_
      refine TL_nil ?_
      refine T_ret ?_
      exact RetG_1 (.inl rfl) rfl (ResV.tmp rfl) GivesTo.g (⟨by rw [decide_eq_true (take_all hi.2 (by omega) (by omega))], rfl⟩)
theorem sameSeal_spec {L : List HP} {A B : Option Addr} {c d : Nat} (a b : OrderD) (hk : SlN L (intR .i64) A c a.cut) (hk2 : SlN L (intR .i64) B d b.cut) : Fn Try.prog 60 #[.agg (List.toArray (orderC a (A, c))), .agg (List.toArray (orderC b (B, d)))] L (fun v L' => v = .bool (decide (a = b)) ∧ L' = L) := by
  refine Fn_enter Try.func60 rfl rfl rfl rfl ?_
  refine T_region ?_
  refine TL_box rfl rfl rfl ?_
  intro b2
  refine TL_box rfl rfl rfl ?_
  intro b3
  refine TL_y rfl rfl (Y_assign rfl) ?_
  refine TL_nil ?_
  refine T_region ?_
  refine TL_y rfl rfl (Y_field_addr rfl) ?_
  refine TL_y rfl rfl (Y_load rfl rfl) ?_
  refine TL_y rfl rfl (Y_field_addr rfl) ?_
  refine TL_y rfl rfl (Y_load rfl rfl) ?_
  refine TL_both 22 30 (a = b) ?_ ?_
  · refine TL_y rfl rfl (Y_str_eq rfl rfl) ?_
    refine TL_y rfl rfl (Y_move rfl) ?_
    refine TL_splitd 10 rfl (fun h10 => ?_) (fun h10 => ?_)
    · refine TL_grun rfl rfl ?_
      refine TL_y rfl rfl (Y_field_addr rfl) ?_
      refine TL_grun rfl rfl ?_
      refine TL_y rfl rfl (Y_load rfl rfl) ?_
      refine TL_grun rfl rfl ?_
      refine TL_y rfl rfl (Y_field_addr rfl) ?_
      refine TL_grun rfl rfl ?_
      refine TL_y rfl rfl (Y_load rfl rfl) ?_
      refine TL_grun rfl rfl ?_
      refine TL_y rfl rfl (Y_str_eq rfl rfl) ?_
      refine TL_y rfl rfl (Y_pick_t rfl rfl) ?_
      refine TL_y rfl rfl (Y_move rfl) ?_
      refine TL_splitd 17 rfl (fun h17 => ?_) (fun h17 => ?_)
      · refine TL_grun rfl rfl ?_
        refine TL_y rfl rfl (Y_field_addr rfl) ?_
        refine TL_grun rfl rfl ?_
        refine TL_y rfl rfl (Y_load rfl rfl) ?_
        refine TL_grun rfl rfl ?_
        refine TL_y rfl rfl (Y_field_addr rfl) ?_
        refine TL_grun rfl rfl ?_
        refine TL_y rfl rfl (Y_load rfl rfl) ?_
        refine TL_grun rfl rfl ?_
        refine TL_y rfl rfl (Y_eq rfl rfl) ?_
        refine TL_y rfl rfl (Y_pick_t rfl rfl) ?_
        refine TL_y rfl rfl (Y_move rfl) ?_
        refine TL_splitd 24 rfl (fun h24 => ?_) (fun h24 => ?_)
        · refine TL_grun rfl rfl ?_
          refine TL_y rfl rfl (Y_field_addr rfl) ?_
          refine TL_grun rfl rfl ?_
          refine TL_y rfl rfl (Y_load rfl rfl) ?_
          refine TL_grun rfl rfl ?_
          refine TL_y rfl rfl (Y_field_addr rfl) ?_
          refine TL_grun rfl rfl ?_
          refine TL_y rfl rfl (Y_load rfl rfl) ?_
          refine TL_grun rfl rfl ?_
          refine TL_call rfl rfl (sameVector_spec hk.tail.tail hk2.tail.tail) ?_
          rintro _ _ ⟨rfl, rfl⟩
          refine TL_y rfl rfl (Y_pick_t rfl rfl) ?_
          refine TL_chain_end rfl ?_ (by repeat (first | exact sub_refl | refine sub_ext rfl ?_)) GivesTo.g
          exact congrArg Value.bool (decide_eq_decide.2 (by simp [order_eq, *]))
        · refine TL_gskip rfl rfl rfl rfl ?_
          refine TL_gskip rfl rfl rfl rfl ?_
          refine TL_gskip rfl rfl rfl rfl ?_
          refine TL_gskip rfl rfl rfl rfl ?_
          refine TL_gskip rfl rfl rfl rfl ?_
          refine TL_y rfl rfl (Y_pick_f rfl rfl) ?_
          refine TL_chain_end rfl ?_ (by repeat (first | exact sub_refl | refine sub_ext rfl ?_)) GivesTo.g
          exact congrArg Value.bool (decide_eq_false (by simp [order_eq, *])).symm
      · refine TL_gskip rfl rfl rfl rfl ?_
        refine TL_gskip rfl rfl rfl rfl ?_
        refine TL_gskip rfl rfl rfl rfl ?_
        refine TL_gskip rfl rfl rfl rfl ?_
        refine TL_gskip rfl rfl rfl rfl ?_
        refine TL_y rfl rfl (Y_pick_f rfl rfl) ?_
        refine TL_y rfl rfl (Y_move rfl) ?_
        refine TL_gskip rfl rfl rfl rfl ?_
        refine TL_gskip rfl rfl rfl rfl ?_
        refine TL_gskip rfl rfl rfl rfl ?_
        refine TL_gskip rfl rfl rfl rfl ?_
        refine TL_gskip rfl rfl rfl rfl ?_
        refine TL_y rfl rfl (Y_pick_f rfl rfl) ?_
        refine TL_chain_end rfl ?_ (by repeat (first | exact sub_refl | refine sub_ext rfl ?_)) GivesTo.g
        exact congrArg Value.bool (decide_eq_false (by simp [order_eq, *])).symm
    · refine TL_gskip rfl rfl rfl rfl ?_
      refine TL_gskip rfl rfl rfl rfl ?_
      refine TL_gskip rfl rfl rfl rfl ?_
      refine TL_gskip rfl rfl rfl rfl ?_
      refine TL_gskip rfl rfl rfl rfl ?_
      refine TL_y rfl rfl (Y_pick_f rfl rfl) ?_
      refine TL_y rfl rfl (Y_move rfl) ?_
      refine TL_gskip rfl rfl rfl rfl ?_
      refine TL_gskip rfl rfl rfl rfl ?_
      refine TL_gskip rfl rfl rfl rfl ?_
      refine TL_gskip rfl rfl rfl rfl ?_
      refine TL_gskip rfl rfl rfl rfl ?_
      refine TL_y rfl rfl (Y_pick_f rfl rfl) ?_
      refine TL_y rfl rfl (Y_move rfl) ?_
      refine TL_gskip rfl rfl rfl rfl ?_
      refine TL_gskip rfl rfl rfl rfl ?_
      refine TL_gskip rfl rfl rfl rfl ?_
      refine TL_gskip rfl rfl rfl rfl ?_
      refine TL_gskip rfl rfl rfl rfl ?_
      refine TL_y rfl rfl (Y_pick_f rfl rfl) ?_
      refine TL_chain_end rfl ?_ (by repeat (first | exact sub_refl | refine sub_ext rfl ?_)) GivesTo.g
      exact congrArg Value.bool (decide_eq_false (by simp [order_eq, *])).symm
  refine TL_y rfl rfl (Y_assign rfl) ?_
  refine TL_nil ?_
  refine T_ret ?_
  exact RetG_1 (.inl rfl) rfl (ResV.tmp rfl) GivesTo.g (⟨rfl, rfl⟩)
theorem sameEntry_spec {L : List HP} {A B : Option Addr} {c d : Nat} (a b : EntryD) (hk : SlN L (intR .i64) A c a.order.cut) (hk2 : SlN L (intR .i64) B d b.order.cut) : Fn Try.prog 19 #[.agg (List.toArray (entryC a (A, c))), .agg (List.toArray (entryC b (B, d)))] L (fun v L' => v = .bool (decide (a = b)) ∧ L' = L) := by
  refine Fn_enter Try.func19 rfl rfl rfl rfl ?_
  refine T_region ?_
  refine TL_box rfl rfl rfl ?_
  intro b2
  refine TL_box rfl rfl rfl ?_
  intro b3
  refine TL_y rfl rfl (Y_assign rfl) ?_
  refine TL_nil ?_
  refine T_region ?_
  refine TL_y rfl rfl (Y_field_addr rfl) ?_
  refine TL_y rfl rfl (Y_load rfl rfl) ?_
  refine TL_y rfl rfl (Y_field_addr rfl) ?_
  refine TL_y rfl rfl (Y_load rfl rfl) ?_
  refine TL_y rfl rfl (Y_equal rfl rfl (EqIs.bool)) ?_
  refine TL_name 9 (v' := .bool (decide (a.noop = b.noop))) rfl (congrArg Value.bool (by cases a.noop <;> cases b.noop <;> rfl)) ?_
  refine TL_both 7 16 (a = b) ?_ ?_
  · refine TL_y rfl rfl (Y_move rfl) ?_
    refine TL_splitd 10 rfl (fun h10 => ?_) (fun h10 => ?_)
    · refine TL_grun rfl rfl ?_
      refine TL_y rfl rfl (Y_field_addr rfl) ?_
      refine TL_grun rfl rfl ?_
      refine TL_y rfl rfl (Y_load_agg rfl rfl) ?_
      refine TL_grun rfl rfl ?_
      refine TL_y rfl rfl (Y_field_addr rfl) ?_
      refine TL_grun rfl rfl ?_
      refine TL_y rfl rfl (Y_load_agg rfl rfl) ?_
      refine TL_grun rfl rfl ?_
      refine TL_call rfl rfl (sameSeal_spec a.order b.order hk.tail.tail hk2.tail.tail) ?_
      rintro _ _ ⟨rfl, rfl⟩
      refine TL_y rfl rfl (Y_pick_t rfl rfl) ?_
      refine TL_chain_end rfl ?_ (by repeat (first | exact sub_refl | refine sub_ext rfl ?_)) GivesTo.g
      exact congrArg Value.bool (decide_eq_decide.2 (by simp [entry_eq, *]))
    · refine TL_gskip rfl rfl rfl rfl ?_
      refine TL_gskip rfl rfl rfl rfl ?_
      refine TL_gskip rfl rfl rfl rfl ?_
      refine TL_gskip rfl rfl rfl rfl ?_
      refine TL_gskip rfl rfl rfl rfl ?_
      refine TL_y rfl rfl (Y_pick_f rfl rfl) ?_
      refine TL_chain_end rfl ?_ (by repeat (first | exact sub_refl | refine sub_ext rfl ?_)) GivesTo.g
      exact congrArg Value.bool (decide_eq_false (by simp [entry_eq, *])).symm
  refine TL_y rfl rfl (Y_assign rfl) ?_
  refine TL_nil ?_
  refine T_ret ?_
  exact RetG_1 (.inl rfl) rfl (ResV.tmp rfl) GivesTo.g (⟨rfl, rfl⟩)
end Go.SL
set_option linter.unusedVariables false
set_option linter.unusedSimpArgs false
namespace Go.SL
open Go Go.Proofs
abbrev pairV (a : Int × Int) : Value := .agg (List.toArray [.int .i64 a.1, .int .i64 a.2])
section
variable {E : Env} {L : List HP} {ty : TypeId}
end
section
variable {E : Env} {L : List HP} {ty : TypeId}
end
end Go.SL
set_option linter.unusedVariables false
set_option linter.unusedSimpArgs false
namespace Go.SL
open Go Go.Proofs
theorem msg_eq {a b : MsgD} : a = b ↔ a.kind = b.kind ∧ a.frm = b.frm ∧ a.to_ = b.to_ ∧ a.bal = b.bal ∧ a.slot = b.slot ∧ a.en = b.en ∧ a.voted = b.voted ∧ a.seen = b.seen ∧ a.events = b.events ∧ a.time = b.time := by cases a; cases b; simp
instance : DecidableEq MsgD := fun a b => decidable_of_iff _ msg_eq.symm
end Go.SL
set_option linter.unusedVariables false
set_option linter.unusedSimpArgs false
namespace Go.SL
open Go Go.RowKit Go.ChangeShapes Go.WideShapes

theorem list_of {α : Type} {p : Nat → α → Prop} : ∀ (n : Nat), (∀ i, i < n → ∃ a, p i a) → ∃ xs : List α, xs.length = n ∧ ∀ i a, xs[i]? = some a → p i a
  | 0, _ => ⟨[], rfl, fun i a h => by simp at h⟩
  | n + 1, h => by
    obtain ⟨xs, h1, h2⟩ := list_of n (fun i hi => h i (by omega))
    obtain ⟨a, ha⟩ := h n (by omega)
    refine ⟨xs ++ [a], by simp [h1], fun i b hb => ?_⟩
    by_cases hi : i < xs.length
    · rw [List.getElem?_append_left hi] at hb; exact h2 i b hb
    · rw [List.getElem?_append_right (by omega)] at hb
      have : i = n := by
        have := (List.getElem?_eq_some_iff.1 hb).1
        simp at this; omega
      subst this
      rw [h1] at hb
      simp at hb
      subst hb; exact ha
theorem mapM_at {α β : Type} {f : α → Option β} : ∀ {l : List α} {r : List β}, l.mapM f = some r → r.length = l.length ∧ ∀ (i : Nat) (x : α), l[i]? = some x → f x = r[i]?
  | [], r, h => by simp at h; subst h; simp
  | x :: l, r, h => by
    simp only [List.mapM_cons] at h
    cases e : f x with
    | none => rw [e] at h; cases h
    | some y =>
      rw [e] at h
      cases e2 : l.mapM f with
      | none => rw [e2] at h; cases h
      | some r' =>
        rw [e2] at h
        cases h
        obtain ⟨h1, h2⟩ := mapM_at e2
        refine ⟨by simp [h1], fun i z hz => ?_⟩
        cases i with
        | zero => simp at hz; subst hz; simpa using e
        | succ i => simpa using h2 i z (by simpa using hz)

/-- A way to count what is read: each value, each letter. -/
structure Bulk (H : Type) where
  f : DataW H → Nat
  one : ∀ d, 1 ≤ f d
  str : ∀ b, b.length + 1 ≤ f (.lit (.string b))
  slice : ∀ e s, (e.map f).sum + 1 ≤ f (.slice e s)
  agg : ∀ ps, (ps.map f).sum + 1 ≤ f (.agg ps)
  ptr : ∀ d, f d + 1 ≤ f (.ptr d)
/-- What is read of type t, of whatever world, is laid as R tells, and bears φ; μ counts it. -/
def Reads {α : Type} (P : Program) (t : TypeId) (R : Rep α) (φ : α → Prop) (μ : α → Nat) : Prop :=
  ∀ (H : Type) (enc : TypeId × Value → H) (W : World) (held : Bool) (fuel : Nat) (cs : List Value) (d : DataW H) (ps : List MemPlace), DataW.trod enc P W 0 (fun _ => true) held fuel t cs = some (d, ps) → (∀ n ∈ d.weights P t, n ≤ reachBytes) →
    ∃ a, R.rep (heapOf W) a cs ∧ φ a ∧ ∀ B : Bulk H, μ a ≤ B.f d
theorem reach_eq : reachBytes = 140737488351232 := rfl
section
variable {P : Program} {t e : TypeId}
theorem wf_in {k : IntKind} {n : Int} (h : (Lit.int k n).wf = true) : intIn k n := by
  simp only [Lit.wf, Bool.and_eq_true, decide_eq_true_eq] at h
  exact h
theorem reads_int {k : IntKind} (ht : P.underlying t = some (.int k)) : Reads P t (intR k) (fun _ => True) (fun _ => 1) := fun H enc W held fuel cs d ps h hw => by
  obtain ⟨n, rfl, hx, hwf⟩ := DataW.trod_int ht h
  exact ⟨n, ⟨rfl, wf_in hwf⟩, trivial, fun B => B.one d⟩
theorem reads_bool (ht : P.underlying t = some .bool) : Reads P t boolR (fun _ => True) (fun _ => 1) := fun H enc W held fuel cs d ps h hw => by
  obtain ⟨b, rfl, hx⟩ := DataW.trod_bool ht h
  exact ⟨b, rfl, trivial, fun B => B.one d⟩
theorem reads_str (ht : P.underlying t = some .string) : Reads P t strR (fun s => s.size ≤ 140737488351232) (fun s => s.size + 1) := fun H enc W held fuel cs d ps h hw => by
  obtain ⟨s, rfl, hx, hs⟩ := DataW.trod_string ht h
  cases hx
  have := hw s.data.toList.length (by simp [DataW.weights])
  rw [reach_eq] at this
  have hsz : s.size = s.data.toList.length := Lib.size_eq s
  exact ⟨s, ⟨rfl, by rw [hsz]; simp only [maxEl]; omega⟩, by show s.size ≤ _; rw [hsz]; exact this, fun B => by show s.size + 1 ≤ _; rw [hsz]; exact B.str _⟩
/-- A slice, of whatever address. -/
def sliceR {α : Type} (R : Rep α) : Rep (List α) := ⟨1, fun M xs cs => ∃ A c, cs = [.slice A xs.length c] ∧ sliceAt M R A c xs, fun hM ⟨A, c, e, h⟩ => ⟨A, c, e, h.mono hM⟩, fun ⟨A, c, e, h⟩ => by rw [e]; rfl, fun ⟨A, c, e, h⟩ v hv => by rw [e] at hv; simp at hv; subst hv; rfl⟩
theorem weightsAll_mem {H : Type} {d : DataW H} {n : Nat} : ∀ {l : List (DataW H)}, d ∈ l → n ∈ d.weights P e → n ∈ DataW.weightsAll P e l
  | x :: l, hd, hn => by
    simp only [DataW.weightsAll, List.mem_append]
    rcases List.mem_cons.1 hd with rfl | hd
    · exact .inl hn
    · exact .inr (weightsAll_mem hd hn)
  | [], hd, _ => by cases hd
theorem sum_le_sum {α β : Type} {f : α → Nat} {g : β → Nat} : ∀ {xs : List α} {ys : List β}, xs.length = ys.length → (∀ (i : Nat) (x : α) (y : β), xs[i]? = some x → ys[i]? = some y → f x ≤ g y) → (xs.map f).sum ≤ (ys.map g).sum
  | [], [], _, _ => by simp
  | x :: xs, y :: ys, hl, h => by
    have h0 := h 0 x y rfl rfl
    have ih := sum_le_sum (xs := xs) (ys := ys) (by simpa using hl) (fun i a b ha hb => h (i + 1) a b (by simpa using ha) (by simpa using hb))
    simp only [List.map_cons, List.sum_cons]
    omega
  | [], _ :: _, hl, _ => by simp at hl
  | _ :: _, [], hl, _ => by simp at hl
theorem reads_slice {α : Type} {R : Rep α} {φ : α → Prop} {μ : α → Nat} (ht : P.underlying t = some (.slice e)) (hsz : P.cellsOf e = R.sz) (h0 : 0 < R.sz) (hb : 0 < P.bytesOf e) (he : Reads P e R φ μ) : Reads P t (sliceR R) (fun xs => xs.length * P.bytesOf e ≤ 140737488351232 ∧ ∀ x ∈ xs, φ x) (fun xs => (xs.map μ).sum + 1) := fun H enc W held fuel cs d ps h hw => by
  rcases DataW.trod_slice ht h with ⟨rfl, hx⟩ | ⟨a, len, cap, elems, rest, n, rfl, rfl, hx, _, hl, hm, hlen, hel, hsp, _⟩
  · exact ⟨[], ⟨none, 0, rfl, sliceAt.nil _ _ _ _⟩, ⟨by simp, fun x hx => by cases hx⟩, fun B => B.one d⟩
  · cases hx
    have hwt : ∀ n ∈ ((elems.map (·.1)).length + (rest.map (·.1)).length) * P.bytesOf e :: (DataW.weightsAll P e (elems.map (·.1)) ++ DataW.weightsAll P e (rest.map (·.1))), n ≤ reachBytes := by
      intro n hn; exact hw n (by simpa [DataW.weights, ht] using hn)
    have hbound : len * P.bytesOf e ≤ 140737488351232 := by
      have := hwt _ (List.mem_cons_self)
      rw [reach_eq] at this
      simp only [List.length_map, hlen] at this
      exact Nat.le_trans (Nat.mul_le_mul_right _ (by omega)) this
    have hle : len ≤ 140737488351232 := Nat.le_trans (Nat.le_mul_of_pos_right _ hb) hbound
    have hall : ∀ i, i < len → ∃ x : α, ((∃ l, R.rep (heapOf W) x l ∧ ∀ j v, l[j]? = some v → W.cell? ((a.add (i * R.sz)).add j) = some v) ∧ φ x) ∧ ∀ y, elems[i]? = some y → ∀ B : Bulk H, μ x ≤ B.f y.1 := by
      intro i hi
      have h1 := hel i hi
      rw [hsz, List.getElem?_eq_getElem (by omega)] at h1
      cases hc : World.cells? W 0 (a.add (i * R.sz)) R.sz with
      | none => rw [hc] at h1; cases h1
      | some cs' =>
        rw [hc] at h1
        simp only [Option.bind_some] at h1
        obtain ⟨x, hx1, hx2, hx3⟩ := he H enc W held n cs' (elems[i]'(by omega)).1 (elems[i]'(by omega)).2 h1 (fun k hk => hwt k (List.mem_cons_of_mem _ (List.mem_append_left _ (weightsAll_mem (List.mem_map.2 ⟨_, List.getElem_mem (by omega), rfl⟩) hk))))
        refine ⟨x, ⟨⟨cs', hx1, fun j v hj => ?_⟩, hx2⟩, fun y hy B => by rw [List.getElem?_eq_getElem (by omega)] at hy; cases hy; exact hx3 B⟩
        simp only [World.cells?, Nat.zero_le, if_true] at hc
        obtain ⟨g1, g2⟩ := mapM_at hc
        have hjl := (List.getElem?_eq_some_iff.1 hj).1
        have := g2 j j (by rw [List.getElem?_range (by simpa [g1] using hjl)])
        rw [this, hj]
    obtain ⟨xs, hxl, hxs⟩ := list_of len hall
    subst hxl
    refine ⟨xs, ⟨some a, cap, rfl, hl, by simp only [maxEl]; omega, ?_⟩, ⟨hbound, fun x hx => let ⟨i, hi⟩ := List.getElem?_of_mem hx; (hxs i x hi).1.2⟩, fun B => ?_⟩
    · cases xs with
      | nil => exact .inl rfl
      | cons x0 xs =>
        right
        obtain ⟨⟨⟨l0, hr0, hc0⟩, _⟩, _⟩ := hxs 0 x0 rfl
        have hl0 := R.len hr0
        obtain ⟨v0, hv0⟩ : ∃ v, l0[0]? = some v := ⟨_, List.getElem?_eq_getElem (by omega)⟩
        have h00 := hc0 0 v0 hv0
        obtain ⟨b, off, spot⟩ := a
        have hspot : spot = none := by simpa [Addr.add] using World.cell?_spot h00
        subst hspot
        obtain ⟨c, t', fr, hblk⟩ : ∃ c t' fr, W.heap[b]? = some (.cells c t' fr) := by
          simp only [World.cell?, Addr.add_plain] at h00
          split at h00
          · exact ⟨_, _, _, by assumption⟩
          · cases h00
        refine ⟨b, off, rfl, c, t', fr, hblk, fun i x hi => ?_⟩
        obtain ⟨⟨⟨l, hr, hc⟩, _⟩, _⟩ := hxs i x hi
        refine ⟨l, hr, fun j v hj => ?_⟩
        have := hc j v hj
        rw [Addr.add_plain, Addr.add_plain, cell_of hblk] at this
        exact this
    · refine Nat.le_trans ?_ (B.slice _ _)
      have := sum_le_sum (f := μ) (g := fun y : DataW H × List MemPlace => B.f y.1) (xs := xs) (ys := elems) hlen.symm (fun i x y hx hy => (hxs i x hx).2 y hy B)
      simp only [List.map_map]
      show (xs.map μ).sum + 1 ≤ _
      have e2 : (B.f ∘ fun x : DataW H × List MemPlace => x.1) = fun y => B.f y.1 := rfl
      rw [e2]
      omega
theorem sum_ge {α : Type} {μ : α → Nat} (h : ∀ x, 1 ≤ μ x) : ∀ xs : List α, xs.length ≤ (xs.map μ).sum
  | [] => by simp
  | x :: xs => by have := sum_ge h xs; have := h x; simp only [List.length_cons, List.map_cons, List.sum_cons]; omega
/-- One argument. -/
theorem arg_reads {α : Type} {R : Rep α} {φ : α → Prop} {μ : α → Nat} (hr : Reads P t R φ μ) {H : Type} {enc : TypeId × Value → H} {W : World} {v : Value} {d : DataW H} {ps : List MemPlace} (h : DataW.Trod enc P W 0 (fun _ => true) true t v d ps) (hw : ∀ n ∈ d.weights P t, n ≤ reachBytes) : ∃ a, R.rep (heapOf W) a v.cells.toList ∧ φ a ∧ ∀ B : Bulk H, μ a ≤ B.f d :=
  let ⟨fuel, h⟩ := h
  hr H enc W true fuel _ d ps h hw
theorem arg_slice {α : Type} {R : Rep α} {φ : List α → Prop} {μ : List α → Nat} (ht : P.underlying t = some (.slice e)) (hr : Reads P t (sliceR R) φ μ) {H : Type} {enc : TypeId × Value → H} {W : World} {base : Nat} {v : Value} {d : DataW H} {ps : List MemPlace} (hval : Value.okWide P W .any base t v) (h : DataW.Trod enc P W 0 (fun _ => true) true t v d ps) (hw : ∀ n ∈ d.weights P t, n ≤ reachBytes) :
    ∃ A c xs, v = .slice A xs.length c ∧ sliceAt (heapOf W) R A c xs ∧ φ xs ∧ ∀ B : Bulk H, μ xs ≤ B.f d := by
  obtain ⟨A, n, c, rfl⟩ := okWide_slice ht hval
  obtain ⟨xs, ⟨A', c', e, h1⟩, h2⟩ := arg_reads hr h hw
  simp only [Value.cells, List.cons.injEq, and_true] at e
  cases e
  exact ⟨_, _, xs, rfl, h1, h2⟩
theorem arg_int {k : IntKind} (ht : P.underlying t = some (.int k)) {H : Type} {enc : TypeId × Value → H} {W : World} {base : Nat} {v : Value} {d : DataW H} {ps : List MemPlace} (hval : Value.okWide P W .any base t v) (h : DataW.Trod enc P W 0 (fun _ => true) true t v d ps) : ∃ n, v = .int k n ∧ intIn k n := by
  obtain ⟨n, rfl, _, _, hw⟩ := open_int ht hval h
  exact ⟨n, rfl, wf_in hw⟩
end

section
variable {P : Program} {t : TypeId} {H : Type} {enc : TypeId × Value → H} {W : World} {held : Bool}
theorem weightsEach_mem {k : Nat} : ∀ {ts : List TypeId} {ds : List (DataW H)} {i : Nat} {t : TypeId} {d : DataW H}, ts[i]? = some t → ds[i]? = some d → k ∈ d.weights P t → k ∈ DataW.weightsEach P ts ds :=
  fun ht hd hk => DataW.weights_mem_each ht hd _ hk
/-- A record is read field by field. -/
theorem reads_fields {fs : Array Field} {fuel : Nat} {cs : List Value} {d : DataW H} {ps : List MemPlace} (ht : P.underlying t = some (.struct fs)) (h : DataW.trod enc P W 0 (fun _ => true) held fuel t cs = some (d, ps)) (hw : ∀ n ∈ d.weights P t, n ≤ reachBytes) :
    ∃ (ds : List (DataW H)) (n : Nat), d = .agg ds ∧ cs.length = P.cellsOf t ∧ ds.length = fs.size ∧ ∀ (i : Nat) (f : Field), fs[i]? = some f → ∃ d' ps', ds[i]? = some d' ∧ DataW.trod enc P W 0 (fun _ => true) held n f.type ((cs.drop f.offset).take (P.cellsOf f.type)) = some (d', ps') ∧ ∀ k ∈ d'.weights P f.type, k ≤ reachBytes := by
  obtain ⟨xs, n, _, hx, hl, hlen, hf⟩ := DataW.trod_struct ht h
  cases hx
  refine ⟨_, n, rfl, hl, by simp [hlen], fun i f hi => ?_⟩
  have hil : i < xs.length := by rw [hlen]; exact (Array.getElem?_eq_some_iff.1 hi).1
  have h1 := hf i f hi
  rw [List.getElem?_eq_getElem hil] at h1
  refine ⟨xs[i].1, xs[i].2, by simp [hil], h1, fun k hk => hw k ?_⟩
  simp only [DataW.weights, ht]
  exact weightsEach_mem (i := i) (t := f.type) (d := xs[i].1) (by simp [hi]) (by simp [hil]) hk
end
/-! ### What is kept -/
theorem sat_init {W : World} {L : List HP} (h : Sep L (heapOf W) Mem.emp) : Sat W W L := ⟨⟨heapOf W, Mem.emp, Mem.disj_symm (Mem.emp_disj _), Mem.le_refl _, Mem.emp_le _, h⟩, rfl, rfl, rfl, Nat.le_refl _⟩
theorem sep_nil {M : Mem} : Sep [] M Mem.emp := trivial
theorem sep_cons {M : Mem} {p : HP} {L : List HP} (h : p.holds M Mem.emp) (k : Sep L M Mem.emp) : Sep (p :: L) M Mem.emp := ⟨Mem.emp, Mem.emp, Mem.emp_disj _, Mem.le_refl _, Mem.le_refl _, h, k⟩
theorem below_of {W w' : World} {L : List HP} (h : Sat W w' (base (heapOf W) :: L)) : Below W.heap.size W w' := by
  obtain ⟨M, k, hd, hM, hk, h1, h2, hd', l1, l2, hp, hs⟩ := h.ex
  refine ⟨h.os, h.tape, h.output, h.size, fun j hj => ?_⟩
  have e : heapOf W j = some (W.heap[j]'hj) := Array.getElem?_eq_getElem hj
  have := hM _ _ (hp _ _ e)
  rw [Array.getElem?_eq_getElem hj]
  exact this
theorem law_calls {P : Program} {f : FuncId} {args : Array Value} {W : World} {L : List HP} (hs : Sep (base (heapOf W) :: L) (heapOf W) Mem.emp) (h : Fn P f args (base (heapOf W) :: L) (fun v L' => v = .bool true ∧ L' = base (heapOf W) :: L)) : Calls P f args W fun e W' => e = .returned (.bool true) ∧ Below W.heap.size W W' :=
  (h W W (sat_init hs)).mono fun e w' ⟨v, L', he, ⟨hv, hL⟩, hsat⟩ => by
    subst he; subst hv; subst hL
    exact ⟨rfl, below_of hsat⟩
theorem trodAll_below {H : Type} {enc : TypeId × Value → H} {P : Program} {W W' : World} (hl : laidOutB P = true) (hb : Below W.heap.size W W') : ∀ {ts : List TypeId} {vs : List Value} {ds : List (DataW H)} {ps : List MemPlace}, ts.all (fun t => P.readableRec t && decide (t < P.types.size)) = true → DataW.TrodAll enc P W 0 (fun _ => true) true ts vs ds ps → (∀ x ∈ ps, x.block < W.heap.size) →
    DataW.TrodAll enc P W' 0 (fun b => decide (b < W.heap.size)) true ts vs ds ps
  | [], _, _, _, _, h, _ => by
    obtain ⟨rfl, rfl, rfl⟩ := trodAll_nil h
    exact trodAll_mk0
  | t :: ts, vs, ds, ps, hts, h, hp => by
    obtain ⟨v, vs1, d, ds1, a, b, rfl, rfl, rfl, h1, h2⟩ := trodAll_cons h
    simp only [List.all_cons, Bool.and_eq_true, decide_eq_true_eq] at hts
    exact trodAll_cons_mk (Below.trod hl hts.1.1 hts.1.2 h1 hb (fun x hx => hp x (List.mem_append_left _ hx))) (trodAll_below hl hb hts.2 h2 (fun x hx => hp x (List.mem_append_right _ hx)))
theorem post_true {H : Type} {enc : TypeId × Value → H} {P : Program} {f : Func} {s : ChangeSpec} {apart fresh handsOn : Bool} {W W' : World} {args : Array Value} {ds gs : List (DataW H)} {before : List MemPlace} {tb : TypeId}
    (hW : DataW.Whole enc P f.params.toList s.vars apart W args.toList ds gs before) (hb : Below W.heap.size W W') (hl : laidOutB P = true) (hts : f.params.toList.all (fun t => P.readableRec t && decide (t < P.types.size)) = true) (hr : f.resultTypes = #[tb]) (htb : P.underlying tb = some .bool) (hv : s.vars = [])
    (hfn : s.fn H (ds ++ gs) = { results := [.lit (.bool true)], args := ds }) : s.post enc P f apart fresh handsOn false W args (.bool true) W' := by
  have hW' := hW
  obtain ⟨p, q, hA, hV, rfl, hfz, hnd⟩ := hW
  rw [hv] at hV
  obtain ⟨rfl, rfl⟩ := trodVars_none hV
  refine ⟨ds, [], p ++ [], [], p, [], hW', ?_, ?_, ?_, hb.frame _, fun h => by cases h⟩
  · rw [hfn, hr]
    exact trodAll_cons_mk (shut_bool htb true) trodAll_mk0
  · rw [hfn]
    exact trodAll_below hl hb hts hA (fun x hx => by simpa using hW'.lt x (by simpa using hx))
  · rw [hfn, hv]
    exact (by simp [DataW.TrodVars])
end Go.SL
set_option linter.unusedVariables false
namespace Go.SL
open Go Go.Proofs
theorem cells_i : Try.prog.cellsOf 3 = 1 := by kernel_rfl
theorem cells_b : Try.prog.cellsOf 4 = 1 := by kernel_rfl
theorem cells_s : Try.prog.cellsOf 9 = 1 := by kernel_rfl
theorem cells_li : Try.prog.cellsOf 23 = 1 := by kernel_rfl
theorem cells_seal : Try.prog.cellsOf 25 = 4 := by kernel_rfl
theorem cells_entry : Try.prog.cellsOf 27 = 5 := by kernel_rfl
theorem bytes_i : Try.prog.bytesOf 3 = 8 := by kernel_rfl
theorem sl_to {α : Type} {R : Rep α} {A : Option Addr} {c : Nat} {xs : List α} {M : Mem} (k : sliceAt M R A c xs) : Sep [sl R A c xs] M Mem.emp := ⟨Mem.emp, Mem.emp, Mem.emp_disj _, Mem.le_refl _, Mem.le_refl _, k, trivial⟩
theorem reads_ints : Reads Try.prog 23 (sliceR (intR .i64)) (fun xs => xs.length * 8 ≤ 140737488351232) (fun xs => xs.length + 1) := fun H enc W held fuel cs d ps h hw => by
  obtain ⟨xs, h1, h2, h3⟩ := reads_slice Try.underlying23 (R := intR .i64) (by kernel_rfl) (by decide) (by rw [bytes_i]; decide) (reads_int Try.underlying3) H enc W held fuel cs d ps h hw
  rw [bytes_i] at h2
  refine ⟨xs, h1, h2.1, fun B => Nat.le_trans ?_ (h3 B)⟩
  have q : xs.length ≤ (xs.map fun _ : Int => 1).sum := sum_ge (μ := fun _ : Int => 1) (fun _ => Nat.le_refl _) xs
  exact Nat.succ_le_succ q
def μSeal (x : OrderD) : Nat := x.token.size + x.cart.size + x.cut.length + 5
set_option maxRecDepth 100000 in
theorem reads_seal : Reads Try.prog 25 orderR (fun _ => True) μSeal := fun H enc W held fuel cs d ps h hw => by
  obtain ⟨ds, n, rfl, hl, hdl, hf⟩ := reads_fields Try.underlying25 h hw
  rw [cells_seal] at hl
  match cs, hl with
  | [u0, u1, u2, u3], _ =>
  obtain ⟨d0, p0, g0, h0, w0⟩ := hf 0 _ rfl
  obtain ⟨d1, p1, g1, h1, w1⟩ := hf 1 _ rfl
  obtain ⟨d2, p2, g2, h2, w2⟩ := hf 2 _ rfl
  obtain ⟨d3, p3, g3, h3, w3⟩ := hf 3 _ rfl
  obtain ⟨x0, ⟨e0, i0⟩, _, m0⟩ := reads_str Try.underlying9 H enc W held n _ d0 p0 h0 w0
  obtain ⟨x1, ⟨e1, i1⟩, _, m1⟩ := reads_str Try.underlying9 H enc W held n _ d1 p1 h1 w1
  obtain ⟨x2, ⟨e2, i2⟩, _, m2⟩ := reads_int Try.underlying3 H enc W held n _ d2 p2 h2 w2
  obtain ⟨x3, ⟨A, c, e3, i3⟩, k3, m3⟩ := reads_ints H enc W held n _ d3 p3 h3 w3
  simp [cells_s] at e0 e1
  simp [cells_i] at e2
  simp [cells_li] at e3
  subst e0; subst e1; subst e2; subst e3
  refine ⟨⟨x0, x1, x2, x3⟩, ⟨(A, c), rfl, sl_to i3, i0, i1, i2, by show x3.length ≤ _; omega⟩, trivial, fun B => ?_⟩
  refine Nat.le_trans ?_ (B.agg ds)
  match ds, hdl with
  | [a0, a1, a2, a3], _ =>
  simp at g0 g1 g2 g3
  subst g0; subst g1; subst g2; subst g3
  have q0 : x0.size + 1 ≤ B.f a0 := m0 B
  have q1 : x1.size + 1 ≤ B.f a1 := m1 B
  have q2 : 1 ≤ B.f a2 := m2 B
  have q3 : x3.length + 1 ≤ B.f a3 := m3 B
  simp only [List.map_cons, List.map_nil, List.sum_cons, List.sum_nil]
  show x0.size + x1.size + x3.length + 5 ≤ _
  omega
def μEntry (e : EntryD) : Nat := μSeal e.order + 2
set_option maxRecDepth 100000 in
theorem reads_entry : Reads Try.prog 27 entryR (fun _ => True) μEntry := fun H enc W held fuel cs d ps h hw => by
  obtain ⟨ds, n, rfl, hl, hdl, hf⟩ := reads_fields Try.underlying27 h hw
  rw [cells_entry] at hl
  match cs, hl with
  | [u0, u1, u2, u3, u4], _ =>
  obtain ⟨d0, p0, g0, h0, w0⟩ := hf 0 _ rfl
  obtain ⟨d1, p1, g1, h1, w1⟩ := hf 1 _ rfl
  obtain ⟨x0, e0, _, m0⟩ := reads_bool Try.underlying4 H enc W held n _ d0 p0 h0 w0
  obtain ⟨x1, ⟨p, e1, hs, ok⟩, _, m1⟩ := reads_seal H enc W held n _ d1 p1 h1 w1
  simp [cells_b, boolR] at e0
  simp [cells_seal] at e1
  obtain ⟨rfl, rfl, rfl, rfl⟩ := e1
  subst e0
  refine ⟨⟨x0, x1⟩, ⟨p, rfl, hs, ok⟩, trivial, fun B => ?_⟩
  refine Nat.le_trans ?_ (B.agg ds)
  match ds, hdl with
  | [a0, a1], _ =>
  simp at g0 g1
  subst g0; subst g1
  have q0 : 1 ≤ B.f a0 := m0 B
  have q1 : μSeal x1 ≤ B.f a1 := m1 B
  simp only [List.map_cons, List.map_nil, List.sum_cons, List.sum_nil]
  show μSeal x1 + 2 ≤ _
  omega
end Go.SL
set_option linter.unusedVariables false
namespace Go.SL
open Go Go.Proofs
def pairR : Rep (Int × Int) := ⟨2, fun _ a cs => cs = [.int .i64 a.1, .int .i64 a.2] ∧ intIn .i64 a.1 ∧ intIn .i64 a.2, fun _ h => h, fun h => by rw [h.1]; rfl, fun h v hv => by rw [h.1] at hv; simp at hv; rcases hv with rfl | rfl <;> rfl⟩
def μEvent (e : EventD) : Nat := e.deps.length + e.cart.size + e.sku.size + 8
def μVoted (v : VotedD) : Nat := μEntry v.en + 3
def μMsg (m : MsgD) : Nat := μEntry m.en + (m.voted.map μVoted).sum + m.seen.length + (m.events.map μEvent).sum + 10
def msgR : Rep MsgD := exR 15 msgC (fun m p => [sl (intR .i64) p.cut.1 p.cut.2 m.en.order.cut, sl votedR p.voted.1 p.voted.2 m.voted, sl (intR .i64) p.seen.1 p.seen.2 m.seen, sl eventR p.events.1 p.events.2 m.events]) MsgOk (fun _ _ => rfl) (fun _ _ => rfl)
theorem sl_cons {α : Type} {R : Rep α} {A : Option Addr} {c : Nat} {xs : List α} {L : List HP} {M : Mem} (k : sliceAt M R A c xs) (h : Sep L M Mem.emp) : Sep (sl R A c xs :: L) M Mem.emp := ⟨Mem.emp, Mem.emp, Mem.emp_disj _, Mem.le_refl _, Mem.le_refl _, k, h⟩
end Go.SL
set_option linter.unusedVariables false
set_option linter.unusedSimpArgs false
namespace Go.SL
open Go Go.Proofs


end Go.SL
set_option linter.unusedVariables false
set_option linter.unusedSimpArgs false
namespace Go.SL
open Go Go.Proofs
abbrev msgV (m : MsgD) (p : MsgP) : Value := .agg (List.toArray (msgC m p))
abbrev eventV (e : EventD) (p : Option Addr × Nat) : Value := .agg (List.toArray (eventC e p))
theorem outE_ok {s : WS} (h : outE s = 0) : s.2 = false ∧ outB s = s.1 := by
  unfold outE at h
  split at h
  · simp at h
  · rename_i h1
    split at h
    · simp at h
    · rename_i h2
      have h1' : s.2 = false := by simpa using h1
      exact ⟨h1', by rw [outB, if_neg (by rw [h1']; simp; omega)]⟩
theorem out_msg {m : MsgD} (h : outE (wMsg m ([], false)) = 0) : rMsg m ∧ outB (wMsg m ([], false)) = bMsg m := by
  obtain ⟨h1, h2⟩ := outE_ok h
  have hr := (wMsg_bad.1 h1).2
  rw [h2, wMsg_ok rfl hr]
  exact ⟨hr, rfl⟩
/-! ### Bytes are bytes -/
def Byt (l : List Int) : Prop := ∀ x ∈ l, 0 ≤ x ∧ x ≤ 255
theorem Byt.app {a b : List Int} (h1 : Byt a) (h2 : Byt b) : Byt (a ++ b) := fun x hx => by
  rcases List.mem_append.1 hx with h | h
  · exact h1 x h
  · exact h2 x h
theorem MsgK.lay {L : List HP} {m : MsgD} {p : MsgP} (h : MsgK L m p) : Gives L (sl (intR .i64) p.cut.1 p.cut.2 m.en.order.cut :: sl votedR p.voted.1 p.voted.2 m.voted :: sl (intR .i64) p.seen.1 p.seen.2 m.seen :: sl eventR p.events.1 p.events.2 m.events :: L) :=
  (SlK.lay h.events).trans ((SlK.lay h.seen.tail).trans ((SlK.lay h.voted.tail.tail).trans (SlK.lay h.cut.tail.tail.tail)))
end Go.SL
set_option linter.unusedVariables false
namespace Go.SL
theorem tm_two (a : Int) {n : Int} (hn : 0 < n) : a.tmod n = a % n ∨ a.tmod n = a % n - n := by
  rw [Int.tmod_eq_emod]
  split
  · left; omega
  · right; omega
theorem tm_bound (a : Int) {n : Int} (hn : 0 < n) : -n < a.tmod n ∧ a.tmod n < n := by
  have h1 := Int.emod_nonneg a (by omega : n ≠ 0)
  have h2 := Int.emod_lt_of_pos a hn
  rw [Int.tmod_eq_emod]
  split
  · omega
  · rename_i h
    have h3 : a % n ≠ 0 := fun e => h (.inr (Int.dvd_of_emod_eq_zero e))
    omega
section
variable {α : Type} {p : α → Bool} {l : List α} {x : α}
/-- How many of the first items p holds of. -/
def posW (p : α → Bool) : List α → Nat
  | [] => 0
  | x :: r => if p x then posW p r + 1 else 0
def insW (p : α → Bool) (x : α) (l : List α) : List α := l.take (posW p l) ++ x :: l.drop (posW p l)
theorem posW_take : ∀ l : List α, ∀ q ∈ l.take (posW p l), p q = true
  | [], q, hq => by simp at hq
  | x :: r, q, hq => by
    cases hx : p x with
    | false => simp [posW, hx] at hq
    | true =>
      simp [posW, hx] at hq
      rcases hq with rfl | hq
      · exact hx
      · exact posW_take r q hq
theorem posW_drop {r : α → α → Prop} : ∀ {l : List α}, l.Pairwise r → (∀ a ∈ l, ∀ b ∈ l, r a b → p b = true → p a = true) → ∀ q ∈ l.drop (posW p l), p q = false
  | [], _, _, q, hq => by simp at hq
  | x :: t, hs, hm, q, hq => by
    cases hx : p x with
    | true =>
      simp [posW, hx] at hq
      exact posW_drop (List.pairwise_cons.1 hs).2 (fun a ha b hb => hm a (List.mem_cons_of_mem _ ha) b (List.mem_cons_of_mem _ hb)) q hq
    | false =>
      simp [posW, hx] at hq
      rcases hq with rfl | hq
      · exact hx
      · cases hpq : p q with
        | false => rfl
        | true => rw [hm x List.mem_cons_self q (List.mem_cons_of_mem _ hq) ((List.pairwise_cons.1 hs).1 q hq) hpq] at hx; cases hx
theorem insW_perm (p : α → Bool) (x : α) (l : List α) : (insW p x l).Perm (x :: l) := by
  unfold insW
  refine List.perm_middle.trans (List.Perm.cons _ ?_)
  rw [List.take_append_drop]
theorem insW_len (p : α → Bool) (x : α) (l : List α) : (insW p x l).length = l.length + 1 := (insW_perm p x l).length_eq
theorem mem_insW {q : α} : q ∈ insW p x l ↔ q = x ∨ q ∈ l := by rw [(insW_perm p x l).mem_iff]; simp
theorem insW_sorted {r : α → α → Prop} (hs : l.Pairwise r) (h1 : ∀ q ∈ l, p q = true → r q x) (h2 : ∀ q ∈ l, p q = false → r x q) (hm : ∀ a ∈ l, ∀ b ∈ l, r a b → p b = true → p a = true) : (insW p x l).Pairwise r := by
  unfold insW
  have e := List.take_append_drop (posW p l) l
  have hs' := hs
  rw [← e] at hs'
  obtain ⟨q1, q2, q3⟩ := List.pairwise_append.1 hs'
  refine List.pairwise_append.2 ⟨q1, List.pairwise_cons.2 ⟨fun q hq => h2 q (List.mem_of_mem_drop hq) (posW_drop hs hm q hq), q2⟩, fun a ha b hb => ?_⟩
  rcases List.mem_cons.1 hb with rfl | hb
  · exact h1 a (List.mem_of_mem_take ha) (posW_take l a ha)
  · exact q3 a ha b hb
end
theorem takeStep {α : Type} {xs ys : List α} {i : Nat} {x y : α} (h : xs.take i = ys.take i) (hx : xs[i]? = some x) (hy : ys[i]? = some y) (e : x = y) : xs.take (i + 1) = ys.take (i + 1) := by
  rw [List.take_add_one, List.take_add_one, h, hx, hy, e]
theorem takeAll {α : Type} {xs ys : List α} {i : Nat} (h : xs.take i = ys.take i) (h1 : xs.length ≤ i) (h2 : ys.length ≤ i) : xs = ys := by
  rwa [List.take_of_length_le h1, List.take_of_length_le h2] at h
theorem takeAt {α : Type} {l : List α} {i : Nat} {s : α} (h : l[i]? = some s) : l.take (i + 1) = l.take i ++ [s] := by rw [List.take_add_one, h]; rfl
end Go.SL
set_option linter.unusedVariables false
set_option linter.unusedSimpArgs false
namespace Go.SL
open Go
structure AccD where
  node : Int
  prom : Int × Int
  V : List VotedD
abbrev vmap (V : List VotedD) : List (Int × VotedD) := V.map fun v => (v.slot, v)
def IncV (V : List VotedD) : Prop := V.Pairwise fun p q => p.slot < q.slot
structure AI (s : AccD) : Prop where
  node : 0 ≤ s.node ∧ s.node ≤ 6
  prom : rBal s.prom
  inc : IncV s.V
  len : s.V.length ≤ 4096
  ok : ∀ v ∈ s.V, rVoted v ∧ votedOk v
abbrev noopE : EntryD := ⟨true, ⟨⟨#[]⟩, ⟨#[]⟩, 0, []⟩⟩
def newV (m : MsgD) : VotedD := ⟨m.slot, m.bal, m.en⟩
def putV (V : List VotedD) (v : VotedD) : List VotedD := insW (fun q : VotedD => decide (q.slot < v.slot)) v (V.filter fun q => !decide (q.slot = v.slot))
def mineA (s : AccD) (m : MsgD) : Prop := outE (wMsg m ([], false)) = 0 ∧ m.to_ = s.node ∧ (m.kind = 1 ∨ m.kind = 3)
def nackA (s : AccD) (m : MsgD) : Prop := cmpB m.bal s.prom < 0 ∨ (m.kind = 3 ∧ getM (vmap s.V) m.slot = none ∧ 4096 ≤ s.V.length)
def chgA (s : AccD) (m : MsgD) : Prop := s.prom ≠ m.bal ∨ (m.kind = 3 ∧ getM (vmap s.V) m.slot ≠ some (newV m))
instance (s : AccD) (m : MsgD) : Decidable (mineA s m) := by unfold mineA; exact inferInstance
instance (s : AccD) (m : MsgD) : Decidable (nackA s m) := by unfold nackA; exact inferInstance
noncomputable instance (s : AccD) (m : MsgD) : Decidable (chgA s m) := Classical.propDecidable _
noncomputable def recA (s : AccD) (m : MsgD) : ByteArray := if mineA s m ∧ ¬ nackA s m ∧ chgA s m then strOfNums (outB (wMsg m ([], false))) else ⟨#[]⟩
def aboveV (V : List VotedD) (slot : Int) : List VotedD := V.filter fun v => decide (slot ≤ v.slot)
def repM (s : AccD) (m : MsgD) (kind : Int) (bal : Int × Int) (voted : List VotedD) : MsgD := ⟨kind, s.node, m.frm, bal, m.slot, noopE, voted, [], [], 0⟩
def stA (s : AccD) (m : MsgD) : AccD := if mineA s m ∧ ¬ nackA s m then ⟨s.node, m.bal, if m.kind = 1 then s.V else putV s.V (newV m)⟩ else s
def repA (s : AccD) (m : MsgD) : MsgD := if mineA s m then (if nackA s m then repM s m 5 s.prom [] else if m.kind = 1 then repM s m 2 m.bal (aboveV s.V m.slot) else repM s m 4 m.bal []) else ⟨0, 0, 0, (0, 0), 0, ⟨false, ⟨⟨#[]⟩, ⟨#[]⟩, 0, []⟩⟩, [], [], [], 0⟩
section
variable {s : AccD} {m : MsgD} {V : List VotedD}
theorem mine_msg (h : mineA s m) : rMsg m := (out_msg h.1).1
theorem vmap_get {k : Int} {v : VotedD} (h : getM (vmap V) k = some v) : v ∈ V ∧ v.slot = k := by
  have := getM_mem h
  obtain ⟨q, hq, e⟩ := List.mem_map.1 this
  cases e
  exact ⟨hq, rfl⟩
theorem vmap_none {k : Int} : getM (vmap V) k = none ↔ ∀ v ∈ V, v.slot ≠ k := by
  rw [getM_none]
  constructor
  · intro h v hv; exact h (v.slot, v) (List.mem_map.2 ⟨v, hv, rfl⟩)
  · rintro h q hq; obtain ⟨v, hv, rfl⟩ := List.mem_map.1 hq; exact h v hv
theorem vmap_nd (h : IncV V) : ND (vmap V) := List.pairwise_map.2 (h.imp fun h e => by dsimp only at e; omega)
theorem vmap_mem (h : IncV V) {v : VotedD} (hv : v ∈ V) : getM (vmap V) v.slot = some v := getM_of_mem (vmap_nd h) (List.mem_map.2 ⟨v, hv, rfl⟩)
theorem del_vmap (k : Int) : delM (vmap V) k = vmap (V.filter fun q => !decide (q.slot = k)) := by
  unfold delM; rw [List.filter_map]; rfl
theorem put_perm {v : VotedD} : ((v.slot, v) :: delM (vmap V) v.slot).Perm (vmap (putV V v)) := by
  rw [del_vmap]
  exact ((insW_perm (fun q : VotedD => decide (q.slot < v.slot)) v (V.filter fun q => !decide (q.slot = v.slot))).map fun q : VotedD => (q.slot, q)).symm
theorem put_mem {v q : VotedD} : q ∈ putV V v ↔ q = v ∨ (q ∈ V ∧ q.slot ≠ v.slot) := by
  unfold putV; rw [mem_insW, List.mem_filter]; simp
theorem put_inc (h : IncV V) {v : VotedD} : IncV (putV V v) := by
  refine insW_sorted (h.filter _) (fun q _ hq => by simpa using hq) (fun q hq hlt => ?_) (fun a _ b _ hab hb => by simp at hb ⊢; omega)
  have h1 := (List.mem_filter.1 hq).2
  simp at h1 hlt
  show v.slot < q.slot
  omega
theorem filter_len_one (h : IncV V) {v : VotedD} (hv : v ∈ V) : (V.filter fun q => !decide (q.slot = v.slot)).length + 1 = V.length := by
  induction V with
  | nil => cases hv
  | cons x r ih =>
    obtain ⟨h1, h2⟩ := List.pairwise_cons.1 h
    rw [List.filter_cons, List.length_cons]
    rcases List.mem_cons.1 hv with rfl | hv
    · have e : r.filter (fun q => !decide (q.slot = v.slot)) = r := List.filter_eq_self.2 fun q hq => by have := h1 q hq; simp; omega
      simp [e]
    · have := h1 v hv
      have e : (!decide (x.slot = v.slot)) = true := by simp; omega
      rw [if_pos e, List.length_cons, ih h2 hv]
theorem put_len (h : IncV V) {v : VotedD} : (putV V v).length = if (getM (vmap V) v.slot).isSome then V.length else V.length + 1 := by
  unfold putV; rw [insW_len]
  cases hg : getM (vmap V) v.slot with
  | none =>
    have := vmap_none.1 hg
    rw [List.filter_eq_self.2 (fun q hq => by simpa using this q hq)]; simp
  | some u =>
    obtain ⟨h1, h2⟩ := vmap_get hg
    have := filter_len_one h h1
    rw [h2] at this
    simp; omega
theorem AI.step (h : AI s) (hx : MsgOk m) : AI (stA s m) := by
  unfold stA
  split
  · rename_i hc
    obtain ⟨hm, hn⟩ := hc
    have hr := mine_msg hm
    by_cases hk : m.kind = 1
    · rw [if_pos hk]; exact ⟨h.node, hr.2.2.2.1, h.inc, h.len, h.ok⟩
    · rw [if_neg hk]
      refine ⟨h.node, hr.2.2.2.1, put_inc h.inc, ?_, fun v hv => ?_⟩
      · have hl := put_len (v := newV m) h.inc
        have h3 : m.kind = 3 := by rcases hm.2.2 with e | e; exact absurd e hk; exact e
        have hlen := h.len
        show (putV s.V (newV m)).length ≤ 4096
        rw [hl]
        split
        · exact hlen
        · rename_i hs
          have hg : getM (vmap s.V) m.slot = none := by
            cases e : getM (vmap s.V) m.slot with
            | none => rfl
            | some u => exact absurd (by show (getM (vmap s.V) m.slot).isSome = true; rw [e]; rfl) hs
          have : ¬ 4096 ≤ s.V.length := fun e => hn (.inr ⟨h3, hg, e⟩)
          omega
      · rcases put_mem.1 hv with rfl | ⟨hv, _⟩
        · exact ⟨⟨hr.2.2.2.2.1, hr.2.2.2.1, hr.2.2.2.2.2.1⟩, hx.slot, hx.b1, hx.b2, hx.en⟩
        · exact h.ok v hv
  · exact h
theorem AI.drop (h : AI s) (k : Int) : AI ⟨s.node, s.prom, aboveV s.V k⟩ := ⟨h.node, h.prom, h.inc.filter _, Nat.le_trans (List.length_filter_le _ _) h.len, fun v hv => h.ok v (List.mem_filter.1 hv).1⟩
end
end Go.SL
set_option linter.unusedVariables false
set_option linter.unusedSimpArgs false
namespace Go.SL
open Go
/-- An entry on its way, and who voted. -/
structure FlP where
  slot : Int
  en : EntryD
  by_ : List Bool
/-- A proposer. -/
structure PP where
  node : Int
  nodes : Int
  phase : Int
  bal : Int × Int
  seen : Int × Int
  frm : Int
  next : Int
  told : List Bool
  kept : List VotedD
  F : List FlP
abbrev no7 : List Bool := List.replicate 7 false
def ppNew (node nodes : Int) : PP := ⟨node, nodes, 0, (0, 0), (0, 0), 0, 0, no7, [], []⟩
def ppStop (p : PP) : PP := { p with phase := 0, bal := (0, 0), next := 0, told := no7, kept := [], F := [] }
def toM (m : MsgD) (node : Int) (to : Int) : MsgD := { m with frm := node, to_ := to }
/-- A message to each of the first nodes that did not vote. -/
def allK (node nodes : Int) (m : MsgD) (bs : List Bool) (k : Nat) : List MsgD := ((List.range k).filter fun i : Nat => !decide (hasV bs nodes (i : Int))).map fun i : Nat => toM m node (i : Int)
def allM (p : PP) (m : MsgD) (bs : List Bool) : List MsgD := allK p.node p.nodes m bs p.nodes.toNat
abbrev prepB (p : PP) : MsgD := ⟨1, 0, 0, p.bal, p.frm, noopE, [], [], [], 0⟩
abbrev accB (p : PP) (slot : Int) (e : EntryD) : MsgD := ⟨3, 0, 0, p.bal, slot, e, [], [], [], 0⟩
def prepM (p : PP) : List MsgD := allM p (prepB p) p.told
def accM (p : PP) (f : FlP) : List MsgD := allM p (accB p f.slot f.en) f.by_
def isBal (b : Int × Int) : Prop := 0 ≤ b.1 ∧ b.1 ≤ 2147483647 ∧ 0 ≤ b.2 ∧ b.2 < 7
instance (b : Int × Int) : Decidable (isBal b) := by unfold isBal; exact inferInstance
def greaterB (a b : Int × Int) : Int × Int := if cmpB a b < 0 then b else a
/-- How Start ends. -/
def startE (p : PP) (floor : Int × Int) (slot : Int) : Int := if slot < 0 ∨ 2147483647 < slot ∨ ¬ isBal floor then 1 else (nextB (greaterB floor p.seen) p.node).2
def startP (p : PP) (floor : Int × Int) (slot : Int) : PP := if startE p floor slot = 0 then { ppStop p with phase := 1, bal := (nextB (greaterB floor p.seen) p.node).1, seen := (nextB (greaterB floor p.seen) p.node).1, frm := slot } else p
def startO (p : PP) (floor : Int × Int) (slot : Int) : List MsgD := if startE p floor slot = 0 then prepM (startP p floor slot) else []
/-- An entry is proposed in a slot. -/
def putP (p : PP) (slot : Int) (e : EntryD) : PP := { p with F := ⟨slot, e, no7⟩ :: p.F, next := slot + 1 }
def putO (p : PP) (slot : Int) (e : EntryD) : List MsgD := accM p ⟨slot, e, no7⟩
def mostP (p : PP) : Int := p.kept.foldl (fun m v => max m v.slot) (p.frm - 1)
def keptE (l : List VotedD) (slot : Int) : EntryD := (bestOr (pickV slot l)).en
/-- Which leads, when so many slots are proposed. -/
def leadK (p : PP) (l : List VotedD) : Nat → PP × List MsgD
  | 0 => ({ p with phase := 2, next := p.frm, kept := [] }, [])
  | k + 1 => (putP (leadK p l k).1 (p.frm + k) (keptE l (p.frm + k)), (leadK p l k).2 ++ putO (leadK p l k).1 (p.frm + k) (keptE l (p.frm + k)))
def leadP (p : PP) : PP × List MsgD := if 4096 ≤ mostP p - p.frm then (ppStop p, []) else leadK p p.kept (mostP p - p.frm + 1).toNat
def enoughV (bs : List Bool) (n : Int) : Prop := n / 2 + 1 ≤ ((allV bs n).length : Int)
instance (bs : List Bool) (n : Int) : Decidable (enoughV bs n) := by unfold enoughV; exact inferInstance
def okProm (p : PP) (m : MsgD) : Prop := p.phase = 1 ∧ m.bal = p.bal ∧ m.slot = p.frm ∧ isV p.nodes m.frm ∧ ¬ hasV p.told p.nodes m.frm
instance (p : PP) (m : MsgD) : Decidable (okProm p m) := by unfold okProm; exact inferInstance
def tellP (p : PP) (m : MsgD) : PP := { p with told := addV p.told p.nodes m.frm, kept := p.kept ++ m.voted }
def promP (p : PP) (m : MsgD) : PP × List MsgD := if okProm p m then (if enoughV (tellP p m).told p.nodes then leadP (tellP p m) else (tellP p m, [])) else (p, [])
def flAt (F : List FlP) (slot : Int) : Option FlP := F.find? fun f => decide (f.slot = slot)
def flDel (F : List FlP) (slot : Int) : List FlP := F.filter fun f => !decide (f.slot = slot)
def flVote (F : List FlP) (slot : Int) (n node : Int) : List FlP := F.map fun f => if f.slot = slot then { f with by_ := addV f.by_ n node } else f
def accP (p : PP) (m : MsgD) : PP × List VotedD :=
  if p.phase = 2 ∧ m.bal = p.bal then
    match flAt p.F m.slot with
    | none => (p, [])
    | some f => if enoughV (addV f.by_ p.nodes m.frm) p.nodes then ({ p with F := flDel p.F m.slot }, [⟨m.slot, p.bal, f.en⟩]) else ({ p with F := flVote p.F m.slot p.nodes m.frm }, [])
  else (p, [])
def nackP (p : PP) (m : MsgD) : PP := if p.phase ≠ 0 ∧ 0 < cmpB m.bal p.bal then { ppStop p with seen := greaterB p.seen m.bal } else p
def isMine (p : PP) (m : MsgD) : Prop := m.to_ = p.node ∧ m.frm < p.nodes ∧ outE (wMsg m ([], false)) = 0
instance (p : PP) (m : MsgD) : Decidable (isMine p m) := by unfold isMine; exact inferInstance
/-- A message comes. -/
def onP (p : PP) (m : MsgD) : PP × List MsgD × List VotedD :=
  if ¬ isMine p m then (p, [], [])
  else if m.kind = 2 then ((promP p m).1, (promP p m).2, [])
  else if m.kind = 4 then ((accP p m).1, [], (accP p m).2)
  else if m.kind = 5 then (nackP p m, [], [])
  else (p, [], [])
def propE (p : PP) (e : EntryD) : Int := if ¬ rEntry e then 1 else if p.phase ≠ 2 then 4 else if 4096 ≤ (p.F.length : Int) ∨ 2147483647 < p.next then 2 else 0
def propP (p : PP) (e : EntryD) : PP := if propE p e = 0 then putP p p.next e else p
def propO (p : PP) (e : EntryD) : List MsgD := if propE p e = 0 then putO p p.next e else []
def againO (p : PP) : List MsgD := if p.phase = 1 then prepM p else (p.F.reverse.map (accM p)).flatten
def flightsV (p : PP) : List VotedD := p.F.reverse.map fun f => ⟨f.slot, p.bal, f.en⟩
end Go.SL
set_option linter.unusedVariables false
set_option linter.unusedSectionVars false
namespace Go.SL
open Go
/-- The record of a range over a function. -/
def lrec (l n : Nat) (E : Env) (ps : Array Tmp) (assign body : Code) (b0 : Nat) (st : LoopState) (j : Option Code) : HP :=
  ⟨fun _ h => ∃ (fn : FuncId) (tmps : Array Value), tmps.size = n ∧ (∀ i v, look E i = some v → tmps[i]? = some v) ∧ h l = some (.loop { state := st, pending := j, fn := fn, tmps := tmps, params := ps, assign := assign, body := body, defers := b0 }),
    fun _ hh ⟨fn, tmps, h1, h2, h3⟩ => ⟨fn, tmps, h1, h2, hh _ _ h3⟩⟩
def mark (b : Nat) : Deferred := { target := .collected b, args := #[] }
abbrev own0 (b : Nat) : HP := own b (.deferred (some []))
section
variable {l n : Nat} {E : Env} {ps : Array Tmp} {assign body : Code} {b0 : Nat} {st st' : LoopState} {j j' : Option Code} {L L' : List HP} {o w : World} {P : Program}
abbrev loopO (fn : FuncId) (tmps : Array Value) (ps : Array Tmp) (assign body : Code) (b0 : Nat) (st : LoopState) (j : Option Code) : Obj := .loop { state := st, pending := j, fn := fn, tmps := tmps, params := ps, assign := assign, body := body, defers := b0 }
theorem lrec_open (h : Sat o w (lrec l n E ps assign body b0 st j :: L)) : ∃ fn tmps, tmps.size = n ∧ (∀ i v, look E i = some v → tmps[i]? = some v) ∧ Sat o w (own l (loopO fn tmps ps assign body b0 st j) :: L) := by
  obtain ⟨M, k, hd, hM, hk, h1, h2, hd', l1, l2, ⟨fn, tmps, a, b, c⟩, hs⟩ := h.ex
  exact ⟨fn, tmps, a, b, ⟨M, k, hd, hM, hk, h1, h2, hd', l1, l2, c, hs⟩, h.os, h.tape, h.output, h.size⟩
theorem lrec_close {fn : FuncId} {tmps : Array Value} (h1 : tmps.size = n) (h2 : ∀ i v, look E i = some v → tmps[i]? = some v) : Gives (own l (loopO fn tmps ps assign body b0 st j) :: L) (lrec l n E ps assign body b0 st j :: L) :=
  fun M h ⟨a1, a2, ad, m1, m2, hp, hs⟩ => ⟨a1, a2, ad, m1, m2, ⟨fn, tmps, h1, h2, hp⟩, hs⟩
theorem Sat.put {b : Nat} {x y : Obj} (h : Sat o w (own b x :: L)) : Sat o (w.putObj b y) (own b y :: L) := by
  have hb := h.own_at
  exact h.set (World.putObj_heap_same (Array.getElem?_eq_some_iff.1 hb).1) (fun i hi => World.putObj_heap_other hi) rfl rfl rfl (by simp)
end
/-- Yield, called so, comes to what Φ tells. -/
def YieldC (P : Program) (l : Nat) (vs : List Value) (L : List HP) (Φ : Value → List HP → Prop) : Prop :=
  ∀ r o w, Sat o w L → ∃ f tmps assign body, (Instr.yield l vs.toArray).run P w = .ok (.round l f tmps assign body) w ∧ RoundIn (Fw r) 0 P l f tmps assign body w (fun e w' => ∃ v L', e = .returned v ∧ Φ v L' ∧ Sat o w' L')
section
variable {r : Option Nat} {n : Nat} {P : Program} {ops : Array Oper} {rest : List Oper} {K : St → Prop} {Q : Exit → St → Prop} {D : List Deferred} {E : Env} {L L' : List HP} {d : Nat} {ty : TypeId} {pos : String} {af : Array Edge}
theorem run_call_yield {l : Nat} {c : Operand} {xs : List Operand} {vs : List Value} {ts : Array TypeId} {a : Act} {w : World} {dst : Option Tmp} {nx : Next} (ha : View n D a E) (hf : ev E c = some (.func (.yield l) #[] #[])) (hx : evl E xs = some vs) (hy : (Instr.yield l vs.toArray).run P w = .ok nx w) :
    (execOp a.eval ⟨dst, .call { callee := .value c, args := xs.toArray, argTypes := ts }, ty, pos, af, none⟩).run P w = .ok nx w := by
  simp [execOp, resolve, invoke, ha.ev hf, Deferred.ofValue, ha.evl hx, hy]
theorem TL_yield {l : Nat} {c : Operand} {xs : List Operand} {vs : List Value} {ts : Array TypeId} {Φ : Value → List HP → Prop} (hd : Nat.blt d n = true) (hf : ev E c = some (.func (.yield l) #[] #[])) (hx : evl E xs = some vs) (spec : YieldC P l vs L Φ)
    (h : ∀ v L', Φ v L' → TL r n P ops rest ⟨D, (d, v) :: E, L'⟩ K) : TL r n P ops (⟨some d, .call { callee := .value c, args := xs.toArray, argTypes := ts }, ty, pos, af, none⟩ :: rest) ⟨D, E, L⟩ K := fun W a w hh => by
  refine wpListIn_plain rfl fun K' hK => ⟨fun _ _ => trivial, ?_⟩
  obtain ⟨f, tmps, assign, body, hy, hr⟩ := spec r W w hh.2
  rw [Oper.semAt_eq _ _ _ (fun _ e => by cases e), run_call_yield hh.1 hf hx hy]
  refine ⟨fun hx => by simp at hx, hr.mono ?_⟩
  rintro e w' ⟨v, L', rfl, hΦ, hs⟩
  exact hK _ _ (h v L' hΦ W _ _ ⟨hh.1.put (by simpa using hd) v, hs⟩)
/-! ### A round -/
def setE : List (Tmp × Value) → Env → Env
  | [], E => E
  | (t, v) :: r, E => setE r ((t, v) :: E)
theorem view_set : ∀ {ts : List (Tmp × Value)} {tm : Array Value} {E : Env}, tm.size = n → (∀ i v, look E i = some v → tm[i]? = some v) → (∀ p ∈ ts, p.1 < n) →
    (ts.foldl (fun tmps (p : Tmp × Value) => tmps.setIfInBounds p.1 p.2) tm).size = n ∧ ∀ i v, look (setE ts E) i = some v → (ts.foldl (fun tmps (p : Tmp × Value) => tmps.setIfInBounds p.1 p.2) tm)[i]? = some v
  | [], tm, E, hs, hv, _ => ⟨hs, hv⟩
  | (t, u) :: r, tm, E, hs, hv, hl => by
    have ht := hl (t, u) List.mem_cons_self
    refine view_set (ts := r) (tm := tm.setIfInBounds t u) (E := (t, u) :: E) (by simpa using hs) (fun i v hi => ?_) (fun p hp => hl p (List.mem_cons_of_mem _ hp))
    have hview : View n [] (({ tmps := tm, defers := [] } : Act).put (some t) u) ((t, u) :: E) := View.put (a := { tmps := tm, defers := [] }) (E := E) (D := []) ⟨hs, rfl, hv⟩ ht u
    exact hview.get i v hi
/-- What a round comes to, by the way its body ends. -/
def roundQ (l n : Nat) (E : Env) (ps : Array Tmp) (assign body : Code) (b0 : Nat) (j : Option Code) (Φ : Value → List HP → Prop) : Exit → St → Prop
  | .normal, s => ∃ L3, Gives s.L (lrec l n E ps assign body b0 .busy j :: L3) ∧ Φ (.bool true) (lrec l n E ps assign body b0 .ready none :: L3)
  | .ret, s => ∃ L3, Gives s.L (lrec l n E ps assign body b0 .busy j :: L3) ∧ Φ (.bool false) (lrec l n E ps assign body b0 .done (some .ret) :: L3)
  | .exit id, s => ∃ L3, Gives s.L (lrec l n E ps assign body b0 .busy j :: L3) ∧ Φ (.bool false) (lrec l n E ps assign body b0 .done (some (.exit id)) :: L3)
  | _, _ => False
theorem lrec_end {l : Nat} {ps : Array Tmp} {assign body : Code} {b0 : Nat} {j jump : Option Code} {o w : World} (h : Sat o w (lrec l n E ps assign body b0 .busy j :: L)) :
    ∃ w', (Instr.endRound l jump).run P w = .ok (.bool jump.isNone) w' ∧ Sat o w' (lrec l n E ps assign body b0 (if jump.isNone then .ready else .done) jump :: L) := by
  obtain ⟨fn, tmps, h1, h2, hs⟩ := lrec_open h
  exact ⟨_, run_endRound jump hs.own_at, (hs.put).gives (lrec_close h1 h2)⟩
theorem YieldC_of {l : Nat} {ps : Array Tmp} {assign body : Code} {b0 : Nat} {j : Option Code} {vs : List Value} {Φ : Value → List HP → Prop} (hsz : vs.length = ps.size) (hps : ∀ t ∈ ps, t < n)
    (h : T (some l) n P assign ⟨[], setE (ps.toList.zip vs) E, lrec l n E ps assign body b0 .ready j :: L⟩ (fun e s => e = .normal ∧ ∃ L2, Gives s.L (lrec l n E ps assign body b0 .ready j :: L2) ∧ T (some l) n P body ⟨s.D, s.E, lrec l n E ps assign body b0 .busy j :: L2⟩ (roundQ l n E ps assign body b0 j Φ))) :
    YieldC P l vs (lrec l n E ps assign body b0 .ready j :: L) Φ := fun r o w hs => by
  obtain ⟨fn, tmps, h1, h2, hs1⟩ := lrec_open hs
  have hy := run_yield (P := P) (args := vs.toArray) hs1.own_at (by simpa using hsz)
  refine ⟨_, _, _, _, hy, roundIn_of_wpIn trivial ?_⟩
  have hfold : (ps.zip vs.toArray).foldl (fun tmps (t, a) => tmps.setIfInBounds t a) tmps = (ps.toList.zip vs).foldl (fun tmps (p : Tmp × Value) => tmps.setIfInBounds p.1 p.2) tmps := by
    rw [← Array.foldl_toList, Array.toList_zip]
  have hset := view_set (n := n) (ts := ps.toList.zip vs) (tm := tmps) (E := E) h1 h2 (fun p hp => hps _ (by have := (List.of_mem_zip hp).1; simpa using this))
  have hview : View n [] { tmps := (ps.zip vs.toArray).foldl (fun tmps (t, a) => tmps.setIfInBounds t a) tmps, defers := [] } (setE (ps.toList.zip vs) E) := by
    rw [hfold]; exact ⟨hset.1, rfl, hset.2⟩
  refine wpIn_mono (h o _ w ⟨hview, hs⟩) ?_
  rintro e a' w' ⟨s', ⟨rfl, L2, hg, hb⟩, hk⟩
  obtain ⟨fn', tmps', k1, k2, k3⟩ := lrec_open (hk.2.gives hg)
  refine ⟨_, run_beginRound k3.own_at rfl, wpIn_mono (hb o a' _ ⟨hk.1, (k3.put).gives (lrec_close k1 k2)⟩) ?_⟩
  rintro e a2 w2 ⟨s2, hq, hk2⟩
  cases e with
  | normal =>
    obtain ⟨L3, g, hΦ⟩ := hq
    obtain ⟨w3, hr, hs3⟩ := lrec_end (P := P) (jump := none) (hk2.2.gives g)
    exact ⟨_, w3, hr, _, _, rfl, hΦ, hs3⟩
  | ret =>
    obtain ⟨L3, g, hΦ⟩ := hq
    obtain ⟨w3, hr, hs3⟩ := lrec_end (P := P) (jump := some .ret) (hk2.2.gives g)
    exact ⟨_, w3, hr, _, _, rfl, hΦ, hs3⟩
  | exit id =>
    obtain ⟨L3, g, hΦ⟩ := hq
    obtain ⟨w3, hr, hs3⟩ := lrec_end (P := P) (jump := some (.exit id)) (hk2.2.gives g)
    exact ⟨_, w3, hr, _, _, rfl, hΦ, hs3⟩
  | goto t => exact hq.elim
  | panic c => exact hq.elim
  | outgrown => exact hq.elim
/-! ### The statement -/
/-- What comes behind the function that was ranged over. -/
def behind (r : Option Nat) (n : Nat) (P : Program) (D : List Deferred) (E : Env) (L2 : List HP) (Q : Exit → St → Prop) : Option Code → Prop
  | none => Q .normal ⟨D, E, L2⟩
  | some c => T r n P c ⟨D, E, L2⟩ Q
theorem T_rangeFunc {g : Operand} {f : FuncId} [hc : IsCall P f] {fs cs : List Value} {ps : Array Tmp} {assign body : Code} {Φ' : Nat → Nat → Value → List HP → Prop} (hg : ev E g = some (.func (.func f) fs.toArray cs.toArray))
    (spec : ∀ l b0, Fn P f (fs ++ [Value.func (.yield l) #[] #[]] ++ cs).toArray (lrec l n E ps assign body b0 .ready none :: own0 b0 :: L) (Φ' l b0))
    (h : ∀ l b0 v L', Φ' l b0 v L' → ∃ st j L2, st ≠ .busy ∧ Gives L' (lrec l n E ps assign body b0 st j :: L2) ∧ behind none n P (mark b0 :: D) E L2 Q j) :
    T none n P (.rangeFunc g ps assign body) ⟨D, E, L⟩ Q := fun o a w hh => by
  refine wpIn_rangeFunc fun fn _ => ?_
  have henter := run_enterLoop_outer (P := P) (w := w) fn a.tmps ps assign body
  have hs1 := (hh.2.alloc (.deferred (some []))).alloc (.loop { state := .ready, pending := none, fn := fn, tmps := a.tmps, params := ps, assign := assign, body := body, defers := w.heap.size })
  have hsz : (w.alloc (.deferred (some []))).heap.size = w.heap.size + 1 := World.size_alloc _ _
  rw [hsz] at hs1
  have hs2 := hs1.gives (lrec_close (ps := ps) (assign := assign) (body := body) (b0 := w.heap.size) (st := .ready) (j := none) hh.1.size hh.1.get)
  refine ⟨_, _, _, { target := .fn (.func f) cs.toArray, args := (fs ++ [Value.func (.yield (w.heap.size + 1)) #[] #[]]).toArray }, (w.alloc (.deferred (some []))).alloc (loopO fn a.tmps ps assign body w.heap.size .ready none), f, (fs ++ [Value.func (.yield (w.heap.size + 1)) #[] #[]] ++ cs).toArray, _, henter, ?_, fun _ _ => trivial, ?_, fun hx => by simp at hx, ((spec _ _).into hs2).mono ?_⟩
  · have hc1 : a.eval (.const (Value.func (.yield (w.heap.size + 1)) #[] #[])) = Value.func (.yield (w.heap.size + 1)) #[] #[] := rfl
    simp [resolve, hh.1.ev hg, Deferred.ofValue, hc1]
  · simp [invoke, hc.run]
  · rintro e w' ⟨v, L', rfl, hΦ, hs⟩
    obtain ⟨st, j, L2, hst, hgv, hb⟩ := h _ _ v L' hΦ
    obtain ⟨fn', tmps', k1, k2, k3⟩ := lrec_open (hs.gives hgv)
    refine ⟨_, _, run_endLoop k3.own_at hst, ?_⟩
    have hk : Holds n o ⟨mark w.heap.size :: D, E, L2⟩ { a with defers := [{ target := .collected w.heap.size, args := #[] }] ++ a.defers } (w'.putObj (w.heap.size + 1) (.loop { state := .exhausted, pending := j, fn := fn', tmps := tmps', params := ps, assign := assign, body := body, defers := w.heap.size })) :=
      ⟨⟨hh.1.size, by simp [mark, hh.1.defers], hh.1.get⟩, (k3.put).gives (Gives.drop _ _)⟩
    cases j with
    | none => exact ⟨_, hb, hk⟩
    | some c => exact hb o _ _ hk
/-! ### Functions that hold such a statement -/
def RetQM (P : Program) (fn : Func) (Φ : Value → List HP → Prop) (e : Exit) (s : St) : Prop :=
  ∃ (bs : List Nat) (L2 : List HP), s.D = bs.map mark ∧ Gives s.L (bs.map own0 ++ L2) ∧ RetQ P fn Φ e ⟨[], s.E, L2⟩
theorem leaves_marks {fn : Func} {R : Ending → World → Prop} {o : World} {L2 : List HP} {tmps : Array Value} : ∀ (bs : List Nat) (w : World), Sat o w (bs.map own0 ++ L2) → (∀ w', Sat o w' L2 → ∃ v, (results fn tmps).run P w' = .ok v w' ∧ R (.returned v) w') → LeavesInM (Fw none) 0 P fn tmps R (bs.map mark) .returning w
  | [], w, hs, hr => hr w hs
  | b :: bs, w, hs, hr => by
    refine ⟨by simp, .inl ⟨b, _, rfl, run_takeDeferred (Sat.own_at hs), ?_⟩⟩
    exact leaves_marks bs _ ((Sat.put (y := .deferred none) hs).gives (Gives.drop _ _)) hr
theorem Fn_enterM {f : FuncId} {fn : Func} {c : Code} {args : List Value} {E0 : Env} {Φ : Value → List HP → Prop} (hf : P.funcs[f]? = some fn) (hb : fn.body = some c) (hn : fn.ntmps = n) (hE : envO 0 args = some E0) (hl : Nat.ble args.length n = true)
    (h : T none n P c ⟨[], E0, L⟩ (RetQM P fn Φ)) : Fn P f args.toArray L Φ := fun W w hs => by
  refine callsIn_wide.1 (callsIn_of_wp_marks (F := Fence.wide) (n := 0) hf hb trivial ?_)
  have hsz : args.length ≤ n := by simpa using hl
  have hview : View n [] { tmps := args.toArray ++ Array.replicate (fn.ntmps - args.toArray.size) undef, defers := [] } E0 := by
    refine ⟨by simp [hn]; omega, rfl, fun j v hv => ?_⟩
    obtain ⟨_, h2⟩ := envO_look hE j v hv
    simp only [Nat.sub_zero] at h2
    have hj : j < args.length := (List.getElem?_eq_some_iff.1 h2).1
    simp [Array.getElem?_append, hj]
    simpa [List.getElem?_eq_getElem hj] using h2
  refine wpIn_mono (h W _ w ⟨hview, hs⟩) ?_
  rintro e a' w' ⟨s', ⟨bs, L2, hD, hg, q⟩, hk⟩
  have key : (∃ v L', Φ v L' ∧ ∀ n W a w, Holds n W ⟨[], s'.E, L2⟩ a w → Sat W w L' ∧ (results fn a.tmps).run P w = .ok v w) → LeavesInM Fence.wide 0 P fn a'.tmps (fun e w' => ∃ v L', e = .returned v ∧ Φ v L' ∧ Sat W w' L') a'.defers .returning w' := by
    rintro ⟨v, L', hΦ, hr⟩
    rw [hk.1.defers, hD]
    refine leaves_marks (L2 := L2) (o := W) bs w' (hk.2.gives hg) (fun w2 h2 => ?_)
    obtain ⟨k1, k2⟩ := hr n W { tmps := a'.tmps, defers := [] } w2 ⟨⟨hk.1.size, rfl, hk.1.get⟩, h2⟩
    exact ⟨v, k2, v, L', rfl, hΦ, k1⟩
  cases e <;> simp only [RetQ] at q
  case normal => exact key q.2
  case ret => exact key q.2
end
end Go.SL
set_option linter.unusedVariables false
set_option linter.unusedSectionVars false
namespace Go.SL
open Go
/-- The consumer is handed the items, one by one, until it stops. -/
inductive Runs {τ α : Type} (step : τ → α → τ → Prop) (stop : τ → Bool) : τ → List α → τ → Prop
  | nil (s : τ) : Runs step stop s [] s
  | halt {s s' : τ} {x : α} {xs : List α} : step s x s' → stop s' = true → Runs step stop s (x :: xs) s'
  | go {s s' s2 : τ} {x : α} {xs : List α} : step s x s' → stop s' = false → Runs step stop s' xs s2 → Runs step stop s (x :: xs) s2
theorem Runs.snoc {τ α : Type} {step : τ → α → τ → Prop} {stop : τ → Bool} {s s1 s2 : τ} {xs : List α} {x : α} (h : Runs step stop s xs s1) (h0 : stop s = false) (h1 : stop s1 = false) (h2 : step s1 x s2) : Runs step stop s (xs ++ [x]) s2 := by
  induction h with
  | nil s =>
    cases e : stop s2 with
    | true => exact .halt h2 e
    | false => exact .go h2 e (.nil _)
  | halt a b => rw [b] at h1; cases h1
  | go a b c ih => exact .go a b (ih b h1 h2)
theorem Runs.more {τ α : Type} {step : τ → α → τ → Prop} {stop : τ → Bool} {s s1 : τ} {xs : List α} (h : Runs step stop s xs s1) (h1 : stop s1 = true) (h0 : stop s = false) (ys : List α) : Runs step stop s (xs ++ ys) s1 := by
  induction h with
  | nil s => rw [h1] at h0; cases h0
  | halt a b => exact .halt a b
  | go a b c ih => exact .go a b (ih h1 b)
/-- A consumer's resource, by its record's number. -/
def con (l : Nat) (p : HP) : HP := p
instance findK_con {L : List HP} {l : Nat} {p : HP} : FindK (con l p :: L) l (con l p) L := ⟨Gives.refl _⟩
def YieldsL (P : Program) (l : Nat) {τ α : Type} (C : τ → HP) (val : α → List Value) (ok : α → List HP → Prop) (step : τ → α → τ → Prop) (stop : τ → Bool) (cnt : τ → Nat) (N : Nat) : Prop :=
  ∀ s x Lx, stop s = false → ok x Lx → cnt s < N → YieldC P l (val x) (con l (C s) :: Lx) (fun v L' => ∃ s', step s x s' ∧ v = .bool (!stop s') ∧ L' = con l (C s') :: Lx)
abbrev YieldsC (P : Program) (l : Nat) {τ α : Type} (C : τ → HP) (val : α → List Value) (ok : α → Prop) (step : τ → α → τ → Prop) (stop : τ → Bool) (cnt : τ → Nat) (N : Nat) : Prop := YieldsL P l C val (fun x _ => ok x) step stop cnt N
/-- The function value hands some list of items, az seqs tells, to whatever consumer; what lies beside stays. -/
def IterL (P : Program) (c : Value) {α : Type} (val : α → List Value) (ok : α → List HP → Prop) (N : Nat) (Lf : List HP) (seqs : Bool → List α → Prop) : Prop :=
  ∃ f fs cs, c = .func (.func f) fs.toArray cs.toArray ∧ IsCall P f ∧ ∀ (τ : Type) (l : Nat) (C : τ → HP) (step : τ → α → τ → Prop) (stop : τ → Bool) (cnt : τ → Nat) (s0 : τ) (Lx : List HP), stop s0 = false → cnt s0 = 0 → (∀ s x s', step s x s' → cnt s' = cnt s + 1) → YieldsL P l C val ok step stop cnt N →
    Fn P f (fs ++ [Value.func (.yield l) #[] #[]] ++ cs).toArray (con l (C s0) :: (Lf ++ Lx)) (fun v L' => ∃ xs s', seqs (stop s') xs ∧ Runs step stop s0 xs s' ∧ L' = con l (C s') :: (Lf ++ Lx))
abbrev IterC (P : Program) (c : Value) {α : Type} (val : α → List Value) (ok : α → Prop) (N : Nat) (Lf : List HP) (seqs : Bool → List α → Prop) : Prop := IterL P c val (fun x _ => ok x) N Lf seqs
def unS (L : List HP) : HP := exH fun _ : Unit => L
theorem unS_close {L L' : List HP} : Gives (L ++ L') (unS L :: L') := exH_close (f := fun _ : Unit => L) ()
theorem unS_open {L L' : List HP} : Gives (unS L :: L') (L ++ L') := fun M h ⟨h1, h2, hd, l1, l2, ⟨_, hx⟩, hs⟩ => sep_append hx hs hd l1 l2
theorem Gives.perm {L L' : List HP} (h : L.Perm L') : Gives L L' := by
  induction h with
  | nil => exact Gives.refl _
  | cons x _ ih => exact Gives.cons x ih
  | swap x y l => exact Gives.swap _ _ _
  | trans _ _ h1 h2 => exact h1.trans h2
section
variable {n : Nat} {P : Program} {Q : Exit → St → Prop} {D : List Deferred} {E : Env} {L : List HP}
abbrev LS (σ : Type) := σ × Option Code
def lcon {σ : Type} (l n : Nat) (E : Env) (ps : Array Tmp) (assign body : Code) (b0 : Nat) (C : σ → List HP) (s : LS σ) : HP := unS (lrec l n E ps assign body b0 (if s.2.isNone then .ready else .done) s.2 :: C s.1)
theorem behind_none {r : Option Nat} {L2 : List HP} (h : Q .normal ⟨D, E, L2⟩) : behind r n P D E L2 Q none := h
/-- A range over an iterator: C tells the body's own resources by a state; the rest Lf stays az it is. -/
theorem T_range_iter {g : Operand} {c : Value} {α σ : Type} {val : α → List Value} {ok : α → List HP → Prop} {seqs : Bool → List α → Prop} {ps : Array Tmp} {assign body : Code} {N : Nat} {Lf Lr : List HP} (C : σ → List HP) (step : LS σ → α → LS σ → Prop) (cnt : σ → Nat) (s0 : σ)
    (hg : ev E g = some c) (hi : IterL P c val ok N Lf seqs) (hL : Gives L (C s0 ++ (Lf ++ Lr))) (hps : ∀ t ∈ ps, t < n) (hval : ∀ x, (val x).length = ps.size) (h0 : cnt s0 = 0) (hcnt : ∀ s x s', step s x s' → cnt s'.1 = cnt s.1 + 1)
    (hbody : ∀ l b0 s x Lx, ok x Lx → cnt s < N → T (some l) n P assign ⟨[], setE (ps.toList.zip (val x)) E, lrec l n E ps assign body b0 .ready none :: (C s ++ Lx)⟩ (fun e s1 => e = .normal ∧ ∃ L2, Gives s1.L (lrec l n E ps assign body b0 .ready none :: L2) ∧
      T (some l) n P body ⟨s1.D, s1.E, lrec l n E ps assign body b0 .busy none :: L2⟩ (fun e s2 => ∃ s' j, (match e with | .normal => j = none | .ret => j = some Code.ret | .exit id => j = some (Code.exit id) | _ => False) ∧ step (s, none) x (s', j) ∧ Gives s2.L (lrec l n E ps assign body b0 .busy none :: (C s' ++ Lx)))))
    (h : ∀ b0 xs (s : LS σ), seqs (!s.2.isNone) xs → Runs step (fun s => !s.2.isNone) (s0, none) xs s → behind none n P (mark b0 :: D) E (own0 b0 :: (C s.1 ++ (Lf ++ Lr))) Q s.2) :
    T none n P (.rangeFunc g ps assign body) ⟨D, E, L⟩ Q := by
  obtain ⟨f, fs, cs, rfl, hcall, hspec⟩ := hi
  have hy : ∀ l b0, YieldsL P l (fun s : LS σ => lcon l n E ps assign body b0 C s) val ok step (fun s => !s.2.isNone) (fun s => cnt s.1) N := by
    intro l b0 s x Lx hs hx hlt
    obtain ⟨s, j⟩ := s
    have hj : j = none := by cases j <;> simp at hs ⊢
    subst hj
    have key : YieldC P l (val x) (lrec l n E ps assign body b0 .ready none :: (C s ++ Lx)) (fun v L' => ∃ s' : LS σ, step (s, none) x s' ∧ v = .bool (!(!s'.2.isNone)) ∧ L' = lrec l n E ps assign body b0 (if s'.2.isNone then .ready else .done) s'.2 :: (C s'.1 ++ Lx)) := by
      refine YieldC_of (hval x) hps ((hbody l b0 s x Lx hx hlt).mono ?_)
      rintro e s1 ⟨rfl, L2, hg2, hb⟩
      refine ⟨rfl, L2, hg2, hb.mono ?_⟩
      rintro e s2 ⟨s', j, hj, hst, hg3⟩
      cases e with
      | normal => dsimp only at hj; subst hj; exact ⟨_, hg3, (s', none), hst, rfl, rfl⟩
      | ret => dsimp only at hj; subst hj; exact ⟨_, hg3, (s', some .ret), hst, rfl, rfl⟩
      | exit id => dsimp only at hj; subst hj; exact ⟨_, hg3, (s', some (.exit id)), hst, rfl, rfl⟩
      | goto t => exact hj.elim
      | panic c => exact hj.elim
      | outgrown => exact hj.elim
    intro r o w hw
    obtain ⟨f1, tm, az, bd, h1, h2⟩ := key r o w (hw.gives (unS_open (L := lrec l n E ps assign body b0 .ready none :: C s)))
    refine ⟨f1, tm, az, bd, h1, h2.mono ?_⟩
    rintro e w' ⟨v, L', rfl, ⟨s', k1, k2, rfl⟩, hw'⟩
    exact ⟨v, _, rfl, ⟨s', k1, k2, rfl⟩, hw'.gives (unS_close (L := lrec l n E ps assign body b0 (if s'.2.isNone then .ready else .done) s'.2 :: C s'.1))⟩
  refine T_rangeFunc (Φ' := fun l b0 v L' => ∃ xs s', seqs (!s'.2.isNone) xs ∧ Runs step (fun s => !s.2.isNone) (s0, none) xs s' ∧ L' = con l (lcon l n E ps assign body b0 C s') :: (Lf ++ own0 b0 :: Lr)) hg (fun l b0 => ?_) ?_
  · refine Fn_gives ?_ (hspec (LS σ) l (fun s => lcon l n E ps assign body b0 C s) step (fun s => !s.2.isNone) (fun s => cnt s.1) (s0, none) (own0 b0 :: Lr) rfl h0 hcnt (hy l b0))
    refine Gives.trans (Gives.cons _ (Gives.cons _ hL)) (Gives.trans (Gives.perm ?_) (unS_close (L := lrec l n E ps assign body b0 .ready none :: C s0) (L' := Lf ++ own0 b0 :: Lr)))
    show (lrec l n E ps assign body b0 .ready none :: own0 b0 :: (C s0 ++ (Lf ++ Lr))).Perm (lrec l n E ps assign body b0 .ready none :: (C s0 ++ (Lf ++ own0 b0 :: Lr)))
    refine List.Perm.cons _ ?_
    rw [← List.append_assoc, ← List.append_assoc]
    exact (List.perm_middle (l₁ := C s0 ++ Lf)).symm
  · rintro l b0 v L' ⟨xs, s', k1, k2, rfl⟩
    refine ⟨_, s'.2, own0 b0 :: (C s'.1 ++ (Lf ++ Lr)), ?_, (unS_open (L := lrec l n E ps assign body b0 (if s'.2.isNone then .ready else .done) s'.2 :: C s'.1)).trans (Gives.cons _ (Gives.perm ?_)), h b0 xs s' k1 k2⟩
    rotate_left
    · show (C s'.1 ++ (Lf ++ own0 b0 :: Lr)).Perm (own0 b0 :: (C s'.1 ++ (Lf ++ Lr)))
      rw [← List.append_assoc, ← List.append_assoc]; exact List.perm_middle
    split <;> simp
end
section
variable {P : Program} {fn : Func} {Φ : Value → List HP → Prop} {e : Exit} {E : Env} {L L2 : List HP} {b : Nat}
theorem retM1 [hf : FindHP L (own0 b) L2] (h : RetQ P fn Φ e ⟨[], E, L2⟩) : RetQM P fn Φ e ⟨[mark b], E, L⟩ := ⟨[b], L2, rfl, hf.g, h⟩
/-- The consumer that never stops. -/
theorem Runs.all {σ α : Type} {step : LS σ → α → LS σ → Prop} {s s' : LS σ} {xs : List α} (hn : ∀ s x s', step s x s' → s'.2 = none) (h : Runs step (fun s => !s.2.isNone) s xs s') (h0 : s.2 = none) : s'.2 = none := by
  induction h with
  | nil s => exact h0
  | halt a b => have := hn _ _ _ a; simp [this] at b
  | go a b c ih => exact ih (hn _ _ _ a)
end
/-! ### Ranges over functions in a loop: the marks gather -/
def owns (bs : List Nat) : HP := unS (bs.map own0)
section
variable {r : Option Nat} {n : Nat} {P : Program} {Q : Exit → St → Prop} {D : List Deferred} {E kv : Env} {L L1 L2 : List HP} {fn : Func} {Φ : Value → List HP → Prop} {e : Exit}
end
end Go.SL
set_option linter.unusedVariables false
set_option linter.unusedSectionVars false
namespace Go.SL
open Go
section
variable {P : Program} {f : FuncId} {args : Array Value} {L : List HP}
theorem SlN.dropc {α : Type} {R : Rep α} {A : Option Addr} {c : Nat} {xs : List α} {L : List HP} (h : SlN L R A c xs) {i : Nat} (hi : i ≤ xs.length) (hc : xs.length ≤ c) : SlN L R (cutA A i c R.sz) (c - i) (xs.drop i) := by
  have := h.cut i xs.length c hi (Nat.le_refl _) hc
  rwa [List.take_length] at this
theorem cells_one' {α : Type} {R : Rep α} {x : α} {l : List Value} {L : List HP} (h : Knows L (fun M => R.rep M x l)) : Knows L (fun M => CellsOf M R [x] l) := h.mono fun M h => ⟨l, [], h, rfl, by simp⟩
end
/-- Data whose cells tell where the rest lies: under its own name. -/
class IsEx {α : Type} (R : Rep α) (β : outParam Type) (sz : outParam Nat) (f : outParam (α → β → List Value)) (g : outParam (α → β → List HP)) (ok : outParam (α → Prop)) : Prop where
  e : ∃ hlen hone, R = exR sz f g ok hlen hone
section
variable {r : Option Nat} {n : Nat} {P : Program} {ops : Array Oper} {rest : List Oper} {KK : St → Prop} {Q : Exit → St → Prop} {D : List Deferred} {E : Env} {L L0 : List HP} {d : Nat} {ty : TypeId} {pos : String} {af : Array Edge}
variable {α β κ : Type} [DecidableEq κ] {sz : Nat} {f : α → β → List Value} {g : α → β → List HP} {ok : α → Prop} {hlen : ∀ x p, (f x p).length = sz} {hone : ∀ x p, oneN (f x p) = true} {K : KeyT κ} {b : Nat} {m : List (κ × α)}
theorem Y_max {x y : Operand} {t t' : TypeId} {k : IntKind} {a b : Int} (hx : ev E x = some (.int k a)) (hy : ev E y = some (.int k b)) : Yl P E L (.call { callee := .builtin .max, args := #[x, y], argTypes := #[t, t'] }) ty (.int k (max a b)) := fun n D W ac w dst pos af g ha hs => by
  have e : (if a < b then b else a) = max a b := by omega
  simp [execOp, resolve, invoke, builtin, ha.ev hx, ha.ev hy, Builtin.max_, Builtin.max2, e]
theorem TL_isx {u : α} {l : List Value} (h : ∀ p, l = f u p → ok u → TL r n P ops rest ⟨D, E, g u p ++ L⟩ KK) : TL r n P ops rest ⟨D, E, is (exR sz f g ok hlen hone) u l :: L⟩ KK := fun W a w hh => by
  obtain ⟨p, e, o, hs⟩ := sat_ex hh.2
  exact h p e o W a w ⟨hh.1, hs⟩
theorem TL_lookup_x {R : Rep α} [hR : IsEx R β sz f g ok] {x y : Operand} {t kt et : TypeId} {z : Value} {k : κ} [ht : TyDesc P t (.map kt et)] [hf : FindM L b κ α K R true m L0] [hk : KeyOk P kt K] [hz : TyZero P et z] (hd : Nat.blt d n = true) (hx : ev E x = some (.map (some b))) (hy : ev E y = some (K.enc k)) (hok : K.ok k)
    (h0 : getM m k = none → TL r n P ops rest ⟨D, (d, z) :: E, L⟩ KK) (h1 : ∀ u p, getM m k = some u → ok u → TL r n P ops rest ⟨D, (d, .agg (f u p).toArray) :: E, g u p ++ (omap K R true b m :: L0)⟩ KK) :
    TL r n P ops (⟨some d, .lookup t x y false, ty, pos, af, none⟩ :: rest) ⟨D, E, L⟩ KK := by
  obtain ⟨hlen, hone, rfl⟩ := hR.e
  exact TL_lookup hd hx hy hok h0 fun u cs hu => TL_isx fun p e ho => by subst e; exact h1 u p hu ho
theorem TL_lookup_okx {R : Rep α} [hR : IsEx R β sz f g ok] {x y : Operand} {t kt et : TypeId} {z : Value} {k : κ} [ht : TyDesc P t (.map kt et)] [hf : FindM L b κ α K R true m L0] [hk : KeyOk P kt K] [hz : TyZero P et z] (hd : Nat.blt d n = true) (hx : ev E x = some (.map (some b))) (hy : ev E y = some (K.enc k)) (hok : K.ok k)
    (h0 : getM m k = none → TL r n P ops rest ⟨D, (d, .tuple #[z, .bool false]) :: E, L⟩ KK) (h1 : ∀ u p, getM m k = some u → ok u → TL r n P ops rest ⟨D, (d, .tuple #[.agg (f u p).toArray, .bool true]) :: E, g u p ++ (omap K R true b m :: L0)⟩ KK) :
    TL r n P ops (⟨some d, .lookup t x y true, ty, pos, af, none⟩ :: rest) ⟨D, E, L⟩ KK := by
  obtain ⟨hlen, hone, rfl⟩ := hR.e
  exact TL_lookup_ok hd hx hy hok h0 fun u cs hu => TL_isx fun p e ho => by subst e; exact h1 u p hu ho
/-- An element's address where the slice lies at its block's front. -/
theorem Y_index_x {R : Rep α} {x i : Operand} {t e : TypeId} {ik : IntKind} {j k g c : Nat} {xs : List α} {u : α} [ht : TyDesc P t (.slice e)] [hz : TySize P e R.sz] (hx : ev E x = some (.slice (some ⟨g, 0, none⟩) k c)) (hi : ev E i = some (.int ik (j : Int))) (hkl : k = xs.length) (hu : xs[j]? = some u) :
    Yl P E L (.indexAddr t x i) ty (.pointer (some ⟨g, j * R.sz + 0, none⟩)) := (Y_index_n (R := R) (xs := xs) hx hi hkl hu).val (by rw [Nat.zero_add])
theorem set_same {l : List α} {i : Nat} {x : α} (h : l[i]? = some x) : l.set i x = l := by
  obtain ⟨h1, h2⟩ := List.getElem?_eq_some_iff.1 h
  rw [← h2, List.set_getElem_self]
theorem T_name {c : Code} (g : Nat) {v v' : Value} (hl : look E g = some v) (e : v = v') (h : T r n P c ⟨D, (g, v') :: E, L⟩ Q) : T r n P c ⟨D, E, L⟩ Q := by
  subst e
  exact fun W a w hh => h W a w ⟨hh.1.less (look_same hl), hh.2⟩
/-- Ways that come together, seen from inside. -/
theorem T_joinKT {σ : Type} {x c : Code} {kv : Env} (ks : List Nat) (I : σ → Prop) (U : σ → Env → Env) (M : σ → List HP) (hk : keepO ks E = some kv)
    (h1 : T r n P x ⟨D, E, L⟩ (thenS (fun s' => ∃ y, I y ∧ ∀ W a w, Holds n W s' a w → Holds n W ⟨D, U y kv, M y⟩ a w) Q)) (h2 : ∀ y, I y → T r n P c ⟨D, U y kv, M y⟩ Q) : T r n P x ⟨D, E, L⟩ (thenS (fun s' => T r n P c s' Q) Q) :=
  h1.mono fun e s q => by
    cases e with
    | normal =>
      obtain ⟨y, hy, hh⟩ := q
      exact fun W a w h => h2 y hy W a w (hh W a w h)
    | _ => exact q
end
end Go.SL
set_option linter.unusedVariables false
namespace Go.SL
open Go
def hole : HP := pure True
def allH (ps : List HP) : HP := unS ps
theorem allH_take {ps : List HP} {i : Nat} {p : HP} {L : List HP} (h : ps[i]? = some p) : Gives (allH ps :: L) (p :: allH (ps.set i hole) :: L) := by
  obtain ⟨hi, he⟩ := List.getElem?_eq_some_iff.1 h
  have e1 : ps = ps.take i ++ p :: ps.drop (i + 1) := by
    conv => lhs; rw [← List.take_append_drop i ps, List.drop_eq_getElem_cons hi, he]
  have e2 : ps.set i hole = ps.take i ++ hole :: ps.drop (i + 1) := List.set_eq_take_append_cons_drop.trans (by rw [if_pos hi])
  refine (unS_open (L := ps) (L' := L)).trans ?_
  refine Gives.trans (B := p :: ((ps.take i ++ ps.drop (i + 1)) ++ L)) ?_ (Gives.cons p ?_)
  · conv => lhs; rw [e1]
    refine Gives.perm ?_
    rw [List.append_assoc, List.append_assoc, List.cons_append]
    exact List.perm_middle
  · refine (Gives.pure_intro (p := True) trivial).trans ?_
    refine Gives.trans (B := (ps.take i ++ hole :: ps.drop (i + 1)) ++ L) ?_ (by rw [← e2]; exact unS_close (L := ps.set i hole) (L' := L))
    refine Gives.perm ?_
    rw [List.append_assoc, List.append_assoc, List.cons_append]
    exact List.perm_middle.symm
theorem allH_put {ps : List HP} {i : Nat} {q : HP} {L : List HP} (hi : i < ps.length) : Gives (q :: allH (ps.set i hole) :: L) (allH (ps.set i q) :: L) := by
  have e2 : ∀ x, ps.set i x = ps.take i ++ x :: ps.drop (i + 1) := fun x => List.set_eq_take_append_cons_drop.trans (by rw [if_pos hi])
  refine (Gives.cons q (unS_open (L := ps.set i hole) (L' := L))).trans ?_
  refine Gives.trans (B := ps.set i q ++ L) ?_ (unS_close (L := ps.set i q) (L' := L))
  rw [e2, e2]
  refine Gives.trans (B := hole :: (q :: (ps.take i ++ (ps.drop (i + 1) ++ L)))) (Gives.perm ?_) ((Gives.drop _ _).trans (Gives.perm ?_))
  · rw [List.append_assoc, List.cons_append]
    refine List.Perm.trans (List.Perm.cons q List.perm_middle) (List.Perm.swap _ _ _)
  · rw [List.append_assoc, List.cons_append]
    exact List.perm_middle.symm
/-- A map, or none. -/
def mapOR : Rep (Option Nat) := ⟨1, fun _ b cs => cs = [.map b], fun _ h => h, fun h => by simp [h], fun h v hv => by rw [h] at hv; simp at hv; subst hv; rfl⟩
instance : RepF mapOR (fun b => [.map b]) := ⟨fun _ _ _ h => h⟩
/-! ### Iterators that share a resource with their consumer -/
def shr (Lsh : List HP) (p : HP) : HP := unS (p :: Lsh)
def IterS (P : Program) (c : Value) {α : Type} (val : α → List Value) (ok : α → List HP → Prop) (N : Nat) (Lsh Lf : List HP) (seqs : Bool → List α → Prop) : Prop :=
  ∃ f fs cs, c = .func (.func f) fs.toArray cs.toArray ∧ IsCall P f ∧ ∀ (τ : Type) (l : Nat) (C : τ → HP) (step : τ → α → τ → Prop) (stop : τ → Bool) (cnt : τ → Nat) (s0 : τ) (Lx : List HP), stop s0 = false → cnt s0 = 0 → (∀ s x s', step s x s' → cnt s' = cnt s + 1) → YieldsL P l (fun s => shr Lsh (C s)) val ok step stop cnt N →
    Fn P f (fs ++ [Value.func (.yield l) #[] #[]] ++ cs).toArray (con l (shr Lsh (C s0)) :: (Lf ++ Lx)) (fun v L' => ∃ xs s', seqs (stop s') xs ∧ Runs step stop s0 xs s' ∧ L' = con l (shr Lsh (C s')) :: (Lf ++ Lx))
section
variable {n : Nat} {P : Program} {Q : Exit → St → Prop} {D : List Deferred} {E : Env} {L : List HP}
end
section
variable {r : Option Nat} {n : Nat} {P : Program} {ops : Array Oper} {rest : List Oper} {K : St → Prop} {Q : Exit → St → Prop} {D : List Deferred} {E : Env} {L L1 L2 : List HP} {p q : HP} {l : Nat}
end
theorem SlN.cap {α : Type} {R : Rep α} {A : Option Addr} {c : Nat} {xs : List α} {L : List HP} (h : SlN L R A c xs) : SlN L R A xs.length xs := fun M k N hd hs hM hk => let ⟨_, b, e⟩ := h M k N hd hs hM hk; ⟨Nat.le_refl _, b, e⟩
theorem len_one {l : List Value} (h : l.length = 1) : ∃ v, l = [v] := by
  match l, h with
  | [v], _ => exact ⟨v, rfl⟩
theorem unS_snoc {β : Type} {f : β → HP} {bs : List β} {b : β} {L : List HP} : Gives (f b :: unS (bs.map f) :: L) (unS ((bs ++ [b]).map f) :: L) := by
  refine (Gives.cons (f b) (unS_open (L := bs.map f) (L' := L))).trans (Gives.trans (Gives.perm ?_) (unS_close (L := (bs ++ [b]).map f) (L' := L)))
  rw [List.map_append, List.append_assoc]
  exact List.perm_middle.symm
end Go.SL
set_option linter.unusedVariables false
namespace Go.SL
open Go
variable {r : Option Nat} {n : Nat} {P : Program} {s : St} {Q : Exit → St → Prop}
theorem vs_adds {ops : Array Oper} {X : List (Nat × Nat)} : ∀ {l : List Nat} {p : Nat → Prop}, (∀ e ∈ X, ∀ s1 s2, l = s1 ++ e.2 :: s2 → e.1 ∈ s1 ∨ p e.1) → VS [] ops p l → VS X ops p l
  | [], _, _, _ => trivial
  | k :: r, p, h, ⟨h1, h2⟩ => by
    refine ⟨fun o ho e he => ?_, vs_adds (fun x hx s1 s2 e => ?_) h2⟩
    · rcases List.mem_append.1 he with he | he
      · exact h1 o ho e (by rw [depsX_nil]; exact he)
      · obtain ⟨x, hx, rfl⟩ := List.mem_map.1 he
        have hx := List.mem_filter.1 hx
        have hk : x.2 = k := Nat.eq_of_beq_eq_true hx.2
        rcases h x hx.1 [] r (by rw [hk]; rfl) with h | h
        · cases h
        · exact h
    · rcases h x hx (k :: s1) s2 (by rw [e]; rfl) with h | h
      · rcases List.mem_cons.1 h with h | h
        · exact .inr (.inl h)
        · exact .inl h
      · exact .inr (.inr h)
/-- The region, in whatever order that keeps the pairs of X. -/
def RD (r : Option Nat) (n : Nat) (P : Program) (l : List Oper) (X : List (Nat × Nat)) (s : St) (Q : Exit → St → Prop) : Prop :=
  ∀ W a w, Holds n W s a w → ∀ sched : List Nat, VS [] l.toArray (fun i => (Array.replicate l.length false).getD i false = true) sched → (∀ e ∈ X, ∀ s1 s2, sched = s1 ++ e.2 :: s2 → e.1 ∈ s1) → (∀ i, i < l.length → i ∈ sched) → sched.Nodup → (∀ i ∈ sched, i < l.length) → sched.length = l.length →
    wpOpsIn (Fw r) 0 P l.toArray (fun e a w => ∃ s', Q e s' ∧ Holds n W s' a w) sched a w
theorem RD_leaf {l : List Oper} {X : List (Nat × Nat)} (Fl : List HP) (B tl : List Nat) (π : List (Nat × Bool)) (hok : regionOk X l B tl π = true) (hFl : Gives s.L Fl) (h : TF r n P l.toArray tl Fl π s (fun s' => Q .normal s')) : RD r n P l X s Q := fun W a w hh sched k1 hX k2 k3 k4 k5 =>
  wpF_ops (fun a' w' s' hk hh' => ⟨s', hk, hh'⟩) _ _ _ (region_run Fl B tl π hok hFl h hh (vs_adds (fun e he s1 s2 h => .inl (hX e he s1 s2 h)) k1) k2 k3 k4 k5)
theorem RD_pair {l : List Oper} {X : List (Nat × Nat)} (i j : Nat) (hij : i ≠ j) (h1 : RD r n P l ((i, j) :: X) s Q) (h2 : RD r n P l ((j, i) :: X) s Q) : RD r n P l X s Q := fun W a w hh sched k1 hX k2 k3 k4 k5 => by
  rcases order_or hij sched with ho | ho
  · exact h1 W a w hh sched k1 (fun e he => by rcases List.mem_cons.1 he with rfl | he; exact ho; exact hX e he) k2 k3 k4 k5
  · exact h2 W a w hh sched k1 (fun e he => by rcases List.mem_cons.1 he with rfl | he; exact ho; exact hX e he) k2 k3 k4 k5
theorem T_rd_last {id : Nat} {l : List Oper} (B : List Nat) (hmix : P.follows .mixedOrders = true) (hm : masksOk [] B l 0 = true) (h : RD r n P l [] s Q) : T r n P (.region id l.toArray true) s Q := fun W a w hh => by
  refine wpIn_region_draw fun t => ?_
  simp only [Region.schedule, hmix, Bool.true_or, if_true]
  obtain ⟨k1, k2, k3, k4, k5⟩ := sched_ok hm l.length t (Array.replicate l.length false) (by simp) (unl_all l)
  have hlin : Region.linearise .any l.toArray t = Region.linearise.go .any l.toArray l.length t (Array.replicate l.length false) [] := by
    simp [Region.linearise]
  rw [hlin]
  exact h W a _ ⟨hh.1, hh.2.drew⟩ _ k1 (fun e he => by cases he) (fun i hi => k2 i hi (by simp [Array.getD_eq_getD_getElem?, hi])) k3 (fun i hi => (k4 i hi).1) k5
theorem T_rd {id : Nat} {l : List Oper} {y : Code} (B : List Nat) (hmix : P.follows .mixedOrders = true) (hm : masksOk [] B l 0 = true) (h : RD r n P l [] s (thenS (fun s' => T r n P y s' Q) Q)) : T r n P (.seq (.region id l.toArray true) y) s Q := T_seq (T_rd_last B hmix hm h)
end Go.SL
set_option linter.unusedVariables false
set_option linter.unusedSimpArgs false
namespace Go.SL
open Go Go.Proofs
theorem cloneN_spec {L : List HP} {A : Option Addr} {c : Nat} {xs : List Int} (hk : SlN L (intR .i64) A c xs) (hb : xs.length ≤ 17592186043904) : Fn Try.prog 52 #[.slice A xs.length c] L (fun v L' => ∃ A' c', v = .slice A' xs.length c' ∧ L' = osl (intR .i64) 3 A' c' xs :: L) := by
  refine Fn_enter Try.func52 rfl rfl rfl rfl ?_
  refine T_region ?_
  refine TL_y rfl rfl (Y_assign rfl) ?_
  refine TL_nil ?_
  refine T_seq ?_
  refine T_region ?_
  refine TL_y rfl rfl (Y_move rfl) ?_
  refine TL_y rfl rfl (Y_equal rfl rfl (EqIs.slice_nil)) ?_
  refine TL_nil ?_
  refine T_if rfl (fun h4 => ?_) (fun h4 => ?_)
  · subst h4
    refine hk.none_nil fun e => ?_
    subst e
    refine T_onil (A := none) (intR .i64) 3 ?_
    refine T_region ?_
    refine TL_y rfl rfl (Y_assign rfl) ?_
    refine TL_nil ?_
    refine T_ret ?_
    refine thenS_ret ?_
    exact RetG_1 (.inl rfl) rfl (ResV.tmp rfl) GivesTo.g (⟨none, 0, rfl, rfl⟩)
  · refine T_skip ?_
    refine thenS_normal ?_
    refine T_region ?_
    refine TL_build_slice rfl rfl rfl rfl rfl rfl ?_
    intro b5
    refine TL_osl (k := 0) (intR .i64) [] (Knows.const fun M => rfl) rfl (by simp) ?_
    refine TL_name 5 (v' := .slice (some ⟨b5, 0, none⟩) ([] : List Int).length 0) rfl rfl ?_
    refine TL_y rfl rfl (Y_move rfl) ?_
    refine TL_append_n rfl rfl rfl rfl rfl hk (by simp; omega) ?_
    intro A7 c7
    refine TL_y rfl rfl (Y_assign rfl) ?_
    refine TL_nil ?_
    refine T_ret ?_
    simp only [List.nil_append]
    exact RetG_1 (.inl rfl) rfl (ResV.tmp rfl) GivesTo.g (⟨A7, c7, rfl, rfl⟩)
end Go.SL
set_option linter.unusedVariables false
set_option linter.unusedSimpArgs false
namespace Go.SL
open Go Go.Proofs
abbrev acF (b : Nat) (s : AccD) (bt : Nat) : List HP := [cells b [.int .i64 s.node, .int .i64 s.prom.1, .int .i64 s.prom.2, .map (some bt)] 113, omap intK votedR true bt (vmap s.V), pure (AI s)]
def ac (b : Nat) (s : AccD) : HP := exH (acF b s)
instance findK_ac {L : List HP} {b : Nat} {s : AccD} : FindK (ac b s :: L) b (ac b s) L := ⟨Gives.refl _⟩
section
variable {r : Option Nat} {n : Nat} {P : Program} {ops : Array Oper} {rest : List Oper} {K : St → Prop} {Q : Exit → St → Prop} {D : List Deferred} {E : Env} {L L' : List HP} {b : Nat} {s : AccD}
theorem ac_open {W w : World} (h : Sat W w (ac b s :: L)) : ∃ bt, AI s ∧ Sat W w (cells b [.int .i64 s.node, .int .i64 s.prom.1, .int .i64 s.prom.2, .map (some bt)] 113 :: omap intK votedR true bt (vmap s.V) :: L) := by
  obtain ⟨bt, hp⟩ := exH_open h
  obtain ⟨M, k, hd, hM, hk, h1, h2, hd', l1, l2, hq, hs⟩ := (hp.gives (Gives.pull 2 (acF b s bt ++ L))).ex
  exact ⟨bt, hq, (hp.gives (Gives.pull 2 (acF b s bt ++ L))).gives (Gives.drop _ _)⟩
theorem T_ac {c : Code} (h : ∀ bt, AI s → T r n P c ⟨D, E, cells b [.int .i64 s.node, .int .i64 s.prom.1, .int .i64 s.prom.2, .map (some bt)] 113 :: omap intK votedR true bt (vmap s.V) :: L⟩ Q) : T r n P c ⟨D, E, ac b s :: L⟩ Q := fun W a w hh => by
  obtain ⟨bt, hi, hs⟩ := ac_open hh.2
  exact h bt hi W a w ⟨hh.1, hs⟩
theorem T_acI {c : Code} (h : AI s → T r n P c ⟨D, E, ac b s :: L⟩ Q) : T r n P c ⟨D, E, ac b s :: L⟩ Q := fun W a w hh => by
  obtain ⟨bt, hi, hs⟩ := ac_open hh.2
  exact h hi W a w hh
theorem ac_close {bt : Nat} {L1 L2 : List HP} (b : Nat) (s : AccD) [h1 : FindC L b [.int .i64 s.node, .int .i64 s.prom.1, .int .i64 s.prom.2, .map (some bt)] 113 L1] [h2 : FindM L1 bt Int VotedD intK votedR true (vmap s.V) L2] (hi : AI s) : Gives L (ac b s :: L2) := by
  refine Gives.trans (h1.g.trans (Gives.cons _ h2.g)) ?_
  refine Gives.trans ?_ (exH_close (f := acF b s) bt)
  exact Gives.cons _ (Gives.cons _ (Gives.pure_intro hi))
end
def acNew (n : Int) : AccD := ⟨n, (0, 0), []⟩
theorem acNew_I {n : Int} (h : 0 ≤ n ∧ n ≤ 6) : AI (acNew n) := ⟨h, by unfold acNew rBal rNum; simp, List.Pairwise.nil, Nat.zero_le _, by simp [acNew]⟩
theorem acNew_ok (n : Int) (h : 0 ≤ n ∧ n ≤ 6) (L : List HP) : Fn Try.prog 20 #[.int .i64 n] L (fun v L' => ∃ b, v = .tuple #[.pointer (some ⟨b, 0, none⟩), .int .i64 0] ∧ L' = ac b (acNew n) :: L) := by
  refine Fn_enter Try.func20 rfl rfl rfl rfl ?_
  refine T_region ?_
  refine TL_y rfl rfl (Y_assign rfl) ?_
  refine TL_y rfl rfl (Y_assign rfl) ?_
  refine TL_nil ?_
  refine T_seq ?_
  refine T_region ?_
  refine TL_y rfl rfl (Y_move rfl) ?_
  refine TL_y rfl rfl (Y_lt rfl rfl) ?_
  refine TL_y rfl rfl (Y_move rfl) ?_
  refine TL_name 6 (v' := .bool false) rfl (congrArg Value.bool (decide_eq_false (by omega))) ?_
  refine TL_grun rfl rfl ?_
  refine TL_y rfl rfl (Y_move rfl) ?_
  refine TL_grun rfl rfl ?_
  refine TL_y rfl rfl (Y_ge rfl rfl) ?_
  refine TL_name 8 (v' := .bool false) rfl (congrArg Value.bool (decide_eq_false (by omega))) ?_
  refine TL_y rfl rfl (Y_pick_f rfl rfl) ?_
  refine TL_nil ?_
  refine T_cond_false rfl ?_
  refine T_skip ?_
  refine thenS_normal ?_
  refine T_region ?_
  refine TL_y rfl rfl (Y_move rfl) ?_
  refine TL_makeMap intK votedR true rfl ?_
  intro bt
  refine TL_y rfl rfl (Y_build rfl rfl) ?_
  refine TL_box rfl rfl rfl ?_
  intro b13
  refine TL_y rfl rfl (Y_assign rfl) ?_
  refine TL_y rfl rfl (Y_assign rfl) ?_
  refine TL_nil ?_
  refine T_ret ?_
  refine RetQ.gives (ac_close (bt := bt) b13 (acNew n) (acNew_I h)) ?_
  exact RetG_2 (.inl rfl) rfl (ResV.tmp rfl) (ResV.tmp rfl) GivesTo.g (⟨b13, rfl, rfl⟩)
theorem acMade_spec {L : List HP} {b : Nat} {s : AccD} : Fn Try.prog 61 #[.pointer (some ⟨b, 0, none⟩)] (ac b s :: L) (fun v L' => v = .bool true ∧ L' = ac b s :: L) := by
  refine Fn_enter Try.func61 rfl rfl rfl rfl ?_
  refine T_ac fun bt hi => ?_
  refine T_region ?_
  refine TL_y rfl rfl (Y_assign rfl) ?_
  refine TL_nil ?_
  refine T_region ?_
  refine TL_y rfl rfl (Y_move rfl) ?_
  refine TL_y rfl rfl (Y_unequal rfl rfl (EqIs.ptr_nil)) ?_
  refine TL_name 4 (v' := .bool true) rfl (by simp) ?_
  refine TL_y rfl rfl (Y_move rfl) ?_
  refine TL_grun rfl rfl ?_
  refine TL_y rfl rfl (Y_move rfl) ?_
  refine TL_grun rfl rfl ?_
  refine TL_y rfl rfl (Y_nil_check rfl) ?_
  refine TL_grun rfl rfl ?_
  refine TL_y rfl rfl (Y_field_addr rfl) ?_
  refine TL_grun rfl rfl ?_
  refine TL_y rfl rfl (Y_load rfl rfl) ?_
  refine TL_grun rfl rfl ?_
  refine TL_y rfl rfl (Y_unequal rfl rfl (EqIs.map_nil)) ?_
  refine TL_name 10 (v' := .bool true) rfl (by simp) ?_
  refine TL_y rfl rfl (Y_pick_t rfl rfl) ?_
  refine TL_y rfl rfl (Y_assign rfl) ?_
  refine TL_nil ?_
  refine T_ret ?_
  refine RetQ.gives (ac_close b s hi) ?_
  exact RetG_1 (.inl rfl) rfl (ResV.tmp rfl) GivesTo.g (⟨rfl, rfl⟩)
theorem acPromised_spec {L : List HP} {b : Nat} {s : AccD} : Fn Try.prog 22 #[.pointer (some ⟨b, 0, none⟩)] (ac b s :: L) (fun v L' => v = balV s.prom ∧ L' = ac b s :: L) := by
  refine Fn_enter Try.func22 rfl rfl rfl rfl ?_
  refine T_region ?_
  refine TL_alloc rfl rfl ?_
  intro b2
  refine TL_nil ?_
  refine T_seq ?_
  refine T_region ?_
  refine TL_y rfl rfl (Y_move rfl) ?_
  refine TL_pullk b ?_
  refine TL_call rfl rfl (acMade_spec) ?_
  rintro _ _ ⟨rfl, rfl⟩
  refine TL_name 4 (v' := .bool true) rfl (rfl) ?_
  refine TL_y rfl rfl (Y_not_t rfl) ?_
  refine TL_nil ?_
  refine T_cond_false rfl ?_
  refine T_skip ?_
  refine thenS_normal ?_
  refine T_pullk b ?_
  refine T_ac fun bt hi => ?_
  refine T_region ?_
  refine TL_y rfl rfl (Y_move rfl) ?_
  refine TL_y rfl rfl (Y_nil_check rfl) ?_
  refine TL_y rfl rfl (Y_field_addr rfl) ?_
  refine TL_y rfl rfl (Y_load_agg rfl rfl) ?_
  refine TL_store rfl rfl rfl rfl rfl rfl ?_
  refine TL_nil ?_
  refine T_ret ?_
  refine RetQ.gives (ac_close b s hi) ?_
  exact RetG_1 (.inl rfl) rfl (ResV.agg rfl rfl) GivesTo.g (⟨rfl, rfl⟩)
abbrev votV (v : VotedD) (p : Option Addr × Nat) : Value := .agg (List.toArray (votedC v p))
theorem acCopied_spec {L : List HP} {A : Option Addr} {c : Nat} (v : VotedD) (hk : SlN L (intR .i64) A c v.en.order.cut) (ho : orderOk' v.en.order) : Fn Try.prog 64 #[votV v (A, c)] L (fun r L' => ∃ p, r = votV v p ∧ L' = osl (intR .i64) 3 p.1 p.2 v.en.order.cut :: L) := by
  refine Fn_enter Try.func64 rfl rfl rfl rfl ?_
  refine T_region ?_
  refine TL_box rfl rfl rfl ?_
  intro b1
  refine TL_alloc rfl rfl ?_
  intro b2
  refine TL_nil ?_
  refine T_region ?_
  refine TL_y rfl rfl (Y_field_addr rfl) ?_
  refine TL_y rfl rfl (Y_field_addr rfl) ?_
  refine TL_y rfl rfl (Y_field_addr rfl) ?_
  refine TL_y rfl rfl (Y_load rfl rfl) ?_
  refine TL_call rfl rfl (cloneN_spec hk.tail.tail (by have := ho.2.2.2; omega)) ?_
  rintro _ _ ⟨A7, c7, rfl, rfl⟩
  refine TL_y rfl rfl (Y_field_addr rfl) ?_
  refine TL_y rfl rfl (Y_field_addr rfl) ?_
  refine TL_y rfl rfl (Y_field_addr rfl) ?_
  refine TL_store rfl rfl rfl rfl rfl rfl ?_
  refine TL_nil ?_
  refine T_region ?_
  refine TL_y rfl rfl (Y_load_agg rfl rfl) ?_
  refine TL_store rfl rfl rfl rfl rfl rfl ?_
  refine TL_nil ?_
  refine T_ret ?_
  exact RetG_1 (.inl rfl) rfl (ResV.agg rfl rfl) GivesTo.g (⟨(A7, c7), rfl, rfl⟩)
end Go.SL
set_option linter.unusedVariables false
set_option linter.unusedSimpArgs false
namespace Go.SL
open Go Go.Proofs
theorem endr {κ α : Type} [DecidableEq κ] {K : KeyT κ} {R : Rep α} {ag : Bool} {b : Nat} {m done : List (κ × α)} {L L0 : List HP} (it : Nat) [hf : FindG L it b κ α K R ag m done L0] : Gives L (omap K R ag b m :: L0) := hf.g.trans mrange_end
structure GaSt where
  xs : List Int
  A : Option Addr
  c : Nat
def gaStep : LS GaSt → Int → LS GaSt → Prop := fun s x s' => s'.2 = none ∧ s'.1.xs = s.1.xs ++ [x]
theorem ga_runs {s s' : LS GaSt} {xs : List Int} (h0 : s.2 = none) (h : Runs gaStep (fun s => !s.2.isNone) s xs s') : s'.2 = none ∧ s'.1.xs = s.1.xs ++ xs := by
  induction h with
  | nil s => exact ⟨h0, by simp⟩
  | halt a b => rw [a.1] at b; simp at b
  | go a b c ih => have := ih a.1; rw [a.2] at this; simpa using this
theorem appendSeq_spec {c : Value} {N : Nat} {Lf Lr : List HP} {seqs : Bool → List Int → Prop} (hi : IterC Try.prog c (fun k : Int => [.int .i64 k]) (fun k => intIn .i64 k) N Lf seqs) (hN : N ≤ 1099511627776) : Fn Try.prog 159 #[.slice none 0 0, c] (Lf ++ Lr) (fun v L' => ∃ A' c' xs, v = .slice A' xs.length c' ∧ seqs false xs ∧ L' = osl (intR .i64) 3 A' c' xs :: (Lf ++ Lr)) := by
  refine Fn_enterM Try.func159 rfl rfl rfl rfl ?_
  refine T_region ?_
  refine TL_box rfl rfl rfl ?_
  intro b2
  refine TL_y rfl rfl (Y_assign rfl) ?_
  refine TL_nil ?_
  refine T_seq ?_
  refine T_region ?_
  refine TL_y rfl rfl (Y_move rfl) ?_
  refine TL_nil ?_
  refine T_block ?_
  refine T_range_iter (fun g : GaSt => [cells b2 [.slice g.A g.xs.length g.c] 23, osl (intR .i64) 3 g.A g.c g.xs]) (gaStep) (fun g : GaSt => g.xs.length) (⟨[], none, 0⟩) rfl (hi) ((osl_nil (intR .i64) 3 none _).trans (Gives.swap _ _ _)) (by decide) (fun _ => rfl) rfl (fun s x s' h => by rw [h.2]; simp) (fun l900 b900 g x Lx hx hlt => ?_) (fun m900 xs g hseq hrun => ?_)
  · obtain ⟨xs, A, c⟩ := g
    dsimp only at hlt
    try simp only [List.cons_append, List.nil_append]
    refine T_region_last ?_
    refine TL_y rfl rfl (Y_assign rfl) ?_
    refine TL_nil ?_
    refine ⟨rfl, _, FindHP.g, ?_⟩
    refine T_block ?_
    refine T_region_last ?_
    refine TL_y rfl rfl (Y_load rfl rfl) ?_
    refine TL_y rfl rfl (Y_move rfl) ?_
    refine TL_build_slice rfl rfl rfl rfl rfl rfl ?_
    intro b10
    refine TL_osl (k := 1) (intR .i64) [x] (Knows.const fun M => ⟨[.int .i64 x], [], ⟨rfl, hx⟩, rfl, rfl⟩) rfl (by decide) ?_
    refine TL_freeze_osl ?_
    refine TL_name 10 (v' := .slice (some ⟨b10, 0, none⟩) [x].length 1) rfl rfl ?_
    refine TL_append rfl rfl rfl rfl rfl slk (by simp only [List.length_cons, List.length_nil]; omega) ?_
    intro A11 c11
    refine TL_store rfl rfl rfl rfl rfl rfl ?_
    refine TL_nil ?_
    refine inB_normal ?_
    exact ⟨⟨xs ++ [x], A11, c11⟩, none, rfl, ⟨rfl, rfl⟩, GivesTo.g⟩
  · obtain ⟨⟨ys, A, c⟩, j⟩ := g
    obtain ⟨rfl, h2⟩ := ga_runs rfl hrun
    dsimp only at h2
    rw [List.nil_append] at h2
    subst h2
    try simp only [List.cons_append, List.nil_append]
    refine behind_none ?_
    refine inB_normal ?_
    refine thenS_normal ?_
    refine T_region ?_
    refine TL_y rfl rfl (Y_load rfl rfl) ?_
    refine TL_y rfl rfl (Y_assign rfl) ?_
    refine TL_nil ?_
    refine T_ret ?_
    refine retM1 ?_
    exact RetG_1 (.inl rfl) rfl (ResV.tmp rfl) GivesTo.g (⟨A, c, ys, rfl, hseq, rfl⟩)
theorem collect_spec {c : Value} {N : Nat} {Lf Lr : List HP} {seqs : Bool → List Int → Prop} (hi : IterC Try.prog c (fun k : Int => [.int .i64 k]) (fun k => intIn .i64 k) N Lf seqs) (hN : N ≤ 1099511627776) : Fn Try.prog 127 #[c] (Lf ++ Lr) (fun v L' => ∃ A' c' xs, v = .slice A' xs.length c' ∧ seqs false xs ∧ L' = osl (intR .i64) 3 A' c' xs :: (Lf ++ Lr)) := by
  refine Fn_enter Try.func127 rfl rfl rfl rfl ?_
  refine T_region ?_
  refine TL_y rfl rfl (Y_assign rfl) ?_
  refine TL_nil ?_
  refine T_region ?_
  refine TL_y rfl rfl (Y_move rfl) ?_
  refine TL_call rfl rfl (appendSeq_spec hi hN) ?_
  rintro _ _ ⟨A4, c4, xs, rfl, hs, rfl⟩
  refine TL_y rfl rfl (Y_assign rfl) ?_
  refine TL_nil ?_
  refine T_ret ?_
  exact RetG_1 (.inl rfl) rfl (ResV.tmp rfl) GivesTo.g (⟨A4, c4, xs, rfl, hs, rfl⟩)
/-! ### A map's keys -/
end Go.SL
set_option linter.unusedVariables false
set_option linter.unusedSimpArgs false
namespace Go.Proofs
open Go.Shelf
shelf_lay Lays.n189 Nm 189 at Try as Try.lays189
end Go.Proofs
namespace Go.SL
open Go Go.Proofs
def srt (xs : List Int) : List Int := xs.mergeSort fun x y => decide (x ≤ y)
theorem srt_perm (xs : List Int) : (srt xs).Perm xs := List.mergeSort_perm xs _
theorem srt_length (xs : List Int) : (srt xs).length = xs.length := (srt_perm xs).length_eq
theorem srt_sorted (xs : List Int) : (srt xs).Pairwise (fun x y => x ≤ y) := by
  have := List.pairwise_mergeSort (le := fun x y : Int => decide (x ≤ y)) (fun a b c h1 h2 => by simp at h1 h2 ⊢; omega) (fun a b => by simp; omega) xs
  exact this.imp fun h => by simpa using h
theorem srt_of {xs ys : List Int} (h : xs.Perm ys) (hy : ys.Pairwise (fun x y => x < y)) : srt xs = ys := by
  have h1 : (srt xs).Perm ys := (srt_perm xs).trans h
  exact h1.eq_of_pairwise (fun a b _ _ h1 h2 => by omega) (srt_sorted xs) (hy.imp fun h => by omega)
theorem Sat.ahead {o w : World} {L : List HP} (h : Sat o w L) (n : Nat) : Sat o (Go.Sort.ahead w n) L := ⟨h.ex, h.os, h.tape, h.output, h.size⟩
theorem Sat.grow {o w : World} {L : List HP} (h : Sat o w L) (xs : Array Obj) : Sat o (Go.Sort.grow w xs) L := by
  obtain ⟨M, k, hd, hM, hk, hs⟩ := h.ex
  have hle : (heapOf w).le (heapOf (Go.Sort.grow w xs)) := fun b x hb => by
    have hlt := (Array.getElem?_eq_some_iff.1 (show w.heap[b]? = some x from hb)).1
    show (Go.Sort.grow w xs).heap[b]? = some x
    rw [Go.Sort.heap_grow_old w xs hlt]; exact hb
  exact ⟨⟨M, k, hd, Mem.le_trans hM hle, Mem.le_trans hk hle, hs⟩, h.os, h.tape, h.output, Nat.le_trans h.size (by simp [Go.Sort.grow])⟩
theorem sort_spec {L : List HP} {A : Option Addr} {c : Nat} {xs : List Int} (hb : xs.length < 4611686018427387904) : Fn Try.prog 54 #[.slice A xs.length c] (osl (intR .i64) 3 A c xs :: L) (fun v L' => v = .tuple #[] ∧ L' = osl (intR .i64) 3 A c (srt xs) :: L) := fun o w hs => by
  obtain ⟨M, k, hd, hM, hk, h1, h2, hd', l1, l2, hp, hsep⟩ := hs.ex
  rcases hp.2 with ⟨rfl, rfl⟩ | ⟨g, cur, rfl, hg, hsz, hl, hc, hx⟩
  · refine (Any.slices_Sort_int_none Try.lays189 A 0 w).mono ?_
    rintro e w' ⟨rfl, rfl⟩
    exact ⟨_, _, rfl, ⟨rfl, rfl⟩, by rw [show srt [] = [] by simp [srt]]; exact hs⟩
  · have hbw : w.heap[g]? = some (.cells cur 3 (0, 0)) := hk _ _ (l1 _ _ hg)
    have hlt : g < w.heap.size := (Array.getElem?_eq_some_iff.1 hbw).1
    have hcur : ∀ i x, xs[i]? = some x → cur[i]? = some (Value.int .i64 x) ∧ intIn .i64 x := fun i x hi => by
      obtain ⟨l, ⟨rfl, hk2⟩, h⟩ := hx i x hi
      have := h 0 _ rfl
      exact ⟨by simpa [intR] using this, hk2⟩
    have hin : ∀ x ∈ xs, intIn .i64 x := fun x hx => by
      obtain ⟨i, hi⟩ := List.getElem?_of_mem hx
      exact (hcur i x hi).2
    have hH : Go.Sort.Holds (Value.int .i64) w g 0 xs.toArray := fun j hj => by
      have hj' : j < xs.length := by simpa using hj
      refine ⟨?_, by simp [World.frozen?, hbw]⟩
      rw [Nat.zero_add, cell_of hbw, (hcur j _ (List.getElem?_eq_getElem hj')).1]
      simp [hj']
    have hone : Sat o w (own g (.cells cur 3 (0, 0)) :: L) := ⟨⟨M, k, hd, hM, hk, h1, h2, hd', l1, l2, hg, hsep⟩, hs.os, hs.tape, hs.output, hs.size⟩
    refine (Any.slices_Sort_int Try.lays189 g 0 c xs w hH hlt hb).mono ?_
    rintro e w' ⟨rfl, n, os, rfl⟩
    have hput : Sat o (Go.Sort.putRow (Value.int .i64) (Go.Sort.ahead w n) g 0 (srt xs).toArray) (own g (.cells (Go.Sort.putCells (Value.int .i64) 0 (srt xs).toArray cur) 3 (0, 0)) :: L) := by
      refine (hone.ahead n).set ?_ ?_ rfl rfl rfl ?_
      · show ((Go.Sort.ahead w n).heap.modify g (Go.Sort.onCells _))[g]? = _
        rw [Array.getElem?_modify, if_pos rfl, show (Go.Sort.ahead w n).heap[g]? = w.heap[g]? from rfl, hbw]; rfl
      · intro i hi
        show ((Go.Sort.ahead w n).heap.modify g (Go.Sort.onCells _))[i]? = _
        rw [Array.getElem?_modify, if_neg (Ne.symm hi)]
      · show _ ≤ ((Go.Sort.ahead w n).heap.modify g (Go.Sort.onCells _)).size
        simp
    refine ⟨_, _, rfl, ⟨rfl, rfl⟩, (hput.grow os).gives fun N m ⟨a1, a2, ad, m1, m2, ha, hs'⟩ => ⟨a1, a2, ad, m1, m2, ⟨by rw [srt_length]; exact hp.1, .inr ⟨g, _, rfl, ha, ?_, by rw [srt_length]; exact hl, hc, fun i x hi => ?_⟩⟩, hs'⟩⟩
    · simp [Go.Sort.putCells, hsz]
    · have hm := List.mem_of_getElem? hi
      have hil : i < (srt xs).length := (List.getElem?_eq_some_iff.1 hi).1
      refine ⟨[.int .i64 x], ⟨rfl, hin x ((srt_perm xs).mem_iff.1 hm)⟩, fun j v hj => ?_⟩
      have hj0 : j = 0 := by
        have := (List.getElem?_eq_some_iff.1 hj).1
        simp at this; exact this
      subst hj0
      simp at hj
      subst hj
      have hic : i < cur.size := by rw [hsz]; rw [srt_length] at hil; simp [intR]; omega
      have hx2 : (srt xs)[i] = x := by
        have := hi; rw [List.getElem?_eq_getElem hil] at this; exact Option.some.inj this
      simp [Go.Sort.putCells, intR, Array.getElem?_mapIdx, hil, hx2, Array.getElem?_eq_getElem hic]
end Go.SL
set_option linter.unusedVariables false
set_option linter.unusedSimpArgs false
namespace Go.SL
open Go Go.Proofs
theorem sorted_spec {c : Value} {N : Nat} {Lf Lr : List HP} {seqs : Bool → List Int → Prop} (hi : IterC Try.prog c (fun k : Int => [.int .i64 k]) (fun k => intIn .i64 k) N Lf seqs) (hN : N ≤ 1099511627776) : Fn Try.prog 97 #[c] (Lf ++ Lr) (fun v L' => ∃ A' c' xs, v = .slice A' (srt xs).length c' ∧ seqs false xs ∧ L' = osl (intR .i64) 3 A' c' (srt xs) :: (Lf ++ Lr)) := by
  refine Fn_enter Try.func97 rfl rfl rfl rfl ?_
  refine T_region ?_
  refine TL_y rfl rfl (Y_assign rfl) ?_
  refine TL_nil ?_
  refine T_region ?_
  refine TL_y rfl rfl (Y_move rfl) ?_
  refine TL_call rfl rfl (collect_spec hi hN) ?_
  rintro _ _ ⟨A5, c5, xs, rfl, hs, rfl⟩
  refine TL_fact osl_len (fun _ h => h) fun hl5 => ?_
  simp only [maxEl] at hl5
  refine TL_y rfl rfl (Y_assign rfl) ?_
  refine TL_nil ?_
  refine T_region ?_
  refine TL_y rfl rfl (Y_move rfl) ?_
  refine TL_call rfl rfl (sort_spec (by omega)) ?_
  rintro _ _ ⟨rfl, rfl⟩
  refine TL_nil ?_
  refine T_region ?_
  refine TL_y rfl rfl (Y_move rfl) ?_
  refine TL_y rfl rfl (Y_assign rfl) ?_
  refine TL_nil ?_
  refine T_ret ?_
  rw [← srt_length xs]
  exact RetG_1 (.inl rfl) rfl (ResV.tmp rfl) GivesTo.g (⟨A5, c5, xs, rfl, hs, rfl⟩)
end Go.SL
set_option linter.unusedVariables false
set_option linter.unusedSimpArgs false
namespace Go.SL
open Go Go.Proofs
theorem keysV1_spec {β : Type} {R : Rep β} {ag : Bool} {b bx : Nat} {m : List (Int × β)} {τ : Type} {l : Nat} {C : τ → HP} {step : τ → Int → τ → Prop} {stop : τ → Bool} {cnt : τ → Nat} {s0 : τ} {Lx : List HP} (h0 : stop s0 = false) (hc0 : cnt s0 = 0) (hcnt : ∀ s x s', step s x s' → cnt s' = cnt s + 1) (hy : YieldsC Try.prog l C (fun k : Int => [.int .i64 k]) (fun k => intIn .i64 k) step stop cnt m.length) :
    Fn Try.prog 128 #[.func (.yield l) #[] #[], .pointer (some ⟨bx, 0, none⟩)] (con l (C s0) :: cells bx [.map (some b)] 111 :: omap intK R ag b m :: Lx)
      (fun v L' => ∃ xs s', (stop s' = false → xs.Perm (m.map (·.1))) ∧ Runs step stop s0 xs s' ∧ L' = con l (C s') :: cells bx [.map (some b)] 111 :: omap intK R ag b m :: Lx) := by
  refine Fn_enter Try.func128 rfl rfl rfl rfl ?_
  refine T_region ?_
  refine TL_y rfl rfl (Y_load rfl rfl) ?_
  refine TL_range rfl rfl ?_
  intro it
  refine TL_nil ?_
  refine T_block ?_
  refine T_loopK (σ := List (Int × β) × τ) [0, 5] (fun g => Runs step stop s0 (g.1.map (·.1)) g.2 ∧ stop g.2 = false ∧ cnt g.2 = g.1.length) (fun g kv => kv) (fun g => con l (C g.2) :: mrange intK R ag b it m g.1 :: cells bx [.map (some b)] 111 :: Lx) (fun g => m.length - g.1.length) (([], s0)) rfl (⟨.nil _, h0, hc0⟩) (GivesTo.g) (sub_cons rfl (sub_cons rfl (sub_nil))) ?_
  rintro ⟨done, s⟩ ⟨hr, hs, hc⟩
  dsimp only at hr hs hc ⊢
  refine T_region ?_
  refine TL_next rfl rfl (fun hp => ?_) (fun q1 cs1 hq hd1 hlt => ?_)
  · refine TL_y rfl rfl (Y_extract rfl rfl) ?_
    refine TL_name 7 (v' := .bool false) rfl (rfl) ?_
    refine TL_nil ?_
    refine T_seq ?_
    refine T_cond_false rfl ?_
    refine T_exit ?_
    refine thenS_exit ?_
    refine thenS_exit ?_
    refine inB_hit ?_
    refine RetQ.gives (endr it) ?_
    exact RetG_0 (.inr rfl) rfl GivesTo.g (⟨_, s, fun _ => hp.map _, hr, rfl⟩)
  · refine TL_y rfl rfl (Y_extract rfl rfl) ?_
    refine TL_name 7 (v' := .bool true) rfl (rfl) ?_
    refine TL_nil ?_
    refine T_seq ?_
    refine T_cond_true rfl ?_
    refine T_skip ?_
    refine thenS_normal ?_
    refine T_block ?_
    refine T_region ?_
    refine TL_entry rfl rfl ?_
    intro cs8 ok8
    refine TL_y rfl rfl (Y_extract rfl rfl) ?_
    refine TL_y rfl rfl (Y_assign rfl) ?_
    refine TL_nil ?_
    refine T_region ?_
    refine TL_y rfl rfl (Y_move rfl) ?_
    refine TL_y rfl rfl (Y_move rfl) ?_
    refine TL_pullk l ?_
    refine TL_yield rfl rfl rfl (hy s q1.1 _ hs ok8 (by omega)) ?_
    rintro _ _ ⟨s2, hst, rfl, rfl⟩
    refine TL_y rfl rfl (Y_not rfl) ?_
    refine TL_nil ?_
    refine T_cond rfl (fun h13 => ?_) (fun h13 => ?_)
    · have hs2 : stop s2 = true := by simpa using h13
      refine T_ret ?_
      refine inB_ret ?_
      refine thenS_ret ?_
      refine inB_ret ?_
      refine RetQ.gives (endr it) ?_
      exact RetG_0 (.inl rfl) rfl GivesTo.g (⟨_, s2, fun h => (by rw [hs2] at h; cases h), hr.snoc h0 hs hst, rfl⟩)
    · have hs2 : stop s2 = false := by simpa using h13
      refine T_skip ?_
      refine inB_normal ?_
      refine thenS_normal ?_
      exact ⟨(done ++ [q1], s2), ⟨by rw [List.map_append]; exact hr.snoc h0 hs hst, hs2, by rw [hcnt _ _ _ hst, hc]; simp⟩, by simp only [List.length_append, List.length_cons, List.length_nil]; omega, holds_to (sub_cons rfl (sub_cons rfl (sub_nil))) GivesTo.g⟩
theorem keysV_iter {β : Type} {R : Rep β} {ag : Bool} {b bx : Nat} {m : List (Int × β)} : IterC Try.prog (.func (.func 128) #[] #[.pointer (some ⟨bx, 0, none⟩)]) (fun k : Int => [.int .i64 k]) (fun k => intIn .i64 k) m.length [cells bx [.map (some b)] 111, omap intK R ag b m] (fun s ks => s = false → ks.Perm (m.map (·.1))) :=
  ⟨_, [], [.pointer (some ⟨bx, 0, none⟩)], rfl, inferInstance, fun τ l C step stop cnt s0 Lx h0 hc hcnt hy => (keysV1_spec h0 hc hcnt hy).cases_ fun v L' ⟨xs, s', a1, a2, a3⟩ => ⟨xs, s', a1, a2, a3⟩⟩
theorem keysV_spec {L : List HP} {b : Nat} : Fn Try.prog 98 #[.map (some b)] L (fun v L' => ∃ bx, v = .func (.func 128) #[] #[.pointer (some ⟨bx, 0, none⟩)] ∧ L' = cells bx [.map (some b)] 111 :: L) := by
  refine Fn_enter Try.func98 rfl rfl rfl rfl ?_
  refine T_region ?_
  refine TL_box rfl rfl rfl ?_
  intro b1
  refine TL_y rfl rfl (Y_assign rfl) ?_
  refine TL_nil ?_
  refine T_region ?_
  refine TL_y rfl rfl (Y_make_func rfl rfl) ?_
  refine TL_y rfl rfl (Y_assign rfl) ?_
  refine TL_nil ?_
  refine T_ret ?_
  exact RetG_1 (.inl rfl) rfl (ResV.tmp rfl) GivesTo.g (⟨b1, rfl, rfl⟩)
end Go.SL
set_option linter.unusedVariables false
set_option linter.unusedSimpArgs false
namespace Go.SL
open Go Go.Proofs
instance : IsEx votedR (Option Addr × Nat) 8 votedC (fun v p => [sl (intR .i64) p.1 p.2 v.en.order.cut]) votedOk := ⟨_, _, rfl⟩
def slotsV (V : List VotedD) : List Int := V.map fun v => v.slot
theorem above_snoc {V : List VotedD} {i : Nat} {v : VotedD} (h : V[i]? = some v) (slot : Int) : aboveV (V.take (i + 1)) slot = aboveV (V.take i) slot ++ if slot ≤ v.slot then [v] else [] := by
  unfold aboveV
  rw [takeAt h, List.filter_append]
  by_cases hs : slot ≤ v.slot <;> simp [hs]
structure AbG where
  i : Nat
  A : Option Addr
  c : Nat
theorem acAbove_spec {L : List HP} {b : Nat} {s : AccD} (slot : Int) : Fn Try.prog 63 #[.pointer (some ⟨b, 0, none⟩), .int .i64 slot] (ac b s :: L) (fun v L' => ∃ A c, v = .slice A (aboveV s.V slot).length c ∧ L' = osl votedR 50 A c (aboveV s.V slot) :: ac b s :: L) := by
  refine Fn_enter Try.func63 rfl rfl rfl rfl ?_
  refine T_region ?_
  refine TL_y rfl rfl (Y_assign rfl) ?_
  refine TL_nil ?_
  refine T_region ?_
  refine TL_y rfl rfl (Y_assign rfl) ?_
  refine TL_nil ?_
  refine T_seq ?_
  refine T_ac fun bt hi => ?_
  have hlen := hi.len
  refine T_region ?_
  refine TL_y rfl rfl (Y_move rfl) ?_
  refine TL_y rfl rfl (Y_nil_check rfl) ?_
  refine TL_y rfl rfl (Y_field_addr rfl) ?_
  refine TL_y rfl rfl (Y_load rfl rfl) ?_
  refine TL_call rfl rfl (keysV_spec) ?_
  rintro _ _ ⟨bx, rfl, rfl⟩
  refine TL_gives (show Gives _ (cells bx [.map (some bt)] 111 :: omap intK votedR true bt (vmap s.V) :: cells b [.int .i64 s.node, .int .i64 s.prom.1, .int .i64 s.prom.2, .map (some bt)] 113 :: L) from GivesTo.g) ?_
  refine TL_call rfl rfl (sorted_spec (Lf := [cells bx [.map (some bt)] 111, omap intK votedR true bt (vmap s.V)]) (Lr := cells b [.int .i64 s.node, .int .i64 s.prom.1, .int .i64 s.prom.2, .map (some bt)] 113 :: L) (keysV_iter (R := votedR) (ag := true) (b := bt) (bx := bx) (m := vmap s.V)) (by simp; omega)) ?_
  rintro _ _ ⟨A13, c13, ks, rfl, hperm, rfl⟩
  rw [show srt ks = slotsV s.V from srt_of (by have := hperm rfl; rwa [List.map_map] at this) (List.pairwise_map.2 hi.inc)]
  simp only [List.cons_append, List.nil_append]
  refine TL_freeze_osl ?_
  refine TL_y rfl rfl (Y_len rfl) ?_
  refine TL_name 14 (v' := .int .i64 (s.V.length : Int)) rfl (by simp [slotsV]) ?_
  refine TL_y rfl rfl (Y_move rfl) ?_
  refine TL_gives (show Gives _ (osl votedR 50 none 0 (aboveV (s.V.take 0) slot) :: _) from osl_nil votedR 50 none _) ?_
  refine TL_nil ?_
  refine T_block ?_
  refine T_loopK (σ := AbG) [0, 1, 13, 14] (fun g => g.i ≤ s.V.length) (fun g kv => (5, .slice g.A (aboveV (s.V.take g.i) slot).length g.c) :: (15, .int .i64 (g.i : Int)) :: kv) (fun g => osl votedR 50 g.A g.c (aboveV (s.V.take g.i) slot) :: sl (intR .i64) A13 c13 (slotsV s.V) :: cells b [.int .i64 s.node, .int .i64 s.prom.1, .int .i64 s.prom.2, .map (some bt)] 113 :: omap intK votedR true bt (vmap s.V) :: L) (fun g => s.V.length - g.i) (⟨0, none, 0⟩) rfl (Nat.zero_le _) (GivesTo.g) (sub_cons rfl (sub_cons rfl (sub_cons rfl (sub_cons rfl (sub_cons rfl (sub_cons rfl (sub_nil))))))) ?_
  rintro ⟨i, X, cx⟩ hil
  dsimp only at hil ⊢
  refine T_region ?_
  refine TL_y rfl rfl (Y_lt rfl rfl) ?_
  refine TL_nil ?_
  refine T_seq ?_
  refine T_if rfl (fun h16 => ?_) (fun h16 => ?_)
  · refine T_skip ?_
    refine thenS_normal ?_
    refine T_seq ?_
    refine T_block ?_
    obtain ⟨v, hv⟩ : ∃ v, s.V[i]? = some v := ⟨_, List.getElem?_eq_getElem (by omega)⟩
    have hvm := List.mem_of_getElem? hv
    have hvo := (hi.ok v hvm).2
    have hu : (slotsV s.V)[i]? = some v.slot := by unfold slotsV; rw [List.getElem?_map, hv]; rfl
    have hget := vmap_mem hi.inc hvm
    have hsn := above_snoc hv slot
    have hal : (aboveV (s.V.take i) slot).length ≤ (s.V.take i).length := List.length_filter_le _ _
    have htl : (s.V.take i).length ≤ s.V.length := by rw [List.length_take]; omega
    refine T_addr_n (sln (A := A13) (c := c13) (R := intR .i64)) hu fun bq oq eq => ?_
    subst eq
    refine T_region ?_
    refine TL_y rfl rfl (Y_index_n (R := intR .i64) (xs := slotsV s.V) rfl rfl rfl hu) ?_
    refine TL_y rfl rfl (Y_load_n (R := intR .i64) (c := c13) (xs := slotsV s.V) (q := 0) rfl sln hu rfl) ?_
    refine TL_y rfl rfl (Y_assign rfl) ?_
    refine TL_nil ?_
    refine T_region ?_
    refine TL_y rfl rfl (Y_move rfl) ?_
    refine TL_y rfl rfl (Y_move rfl) ?_
    refine TL_y rfl rfl (Y_ge rfl rfl) ?_
    refine TL_nil ?_
    refine T_if rfl (fun h21 => ?_) (fun h21 => ?_)
    · rw [if_pos h21] at hsn
      refine T_region_last ?_
      refine TL_y rfl rfl (Y_move rfl) ?_
      refine TL_y rfl rfl (Y_move rfl) ?_
      refine TL_y rfl rfl (Y_nil_check rfl) ?_
      refine TL_y rfl rfl (Y_field_addr rfl) ?_
      refine TL_y rfl rfl (Y_load rfl rfl) ?_
      refine TL_y rfl rfl (Y_move rfl) ?_
      refine TL_lookup_x (R := votedR) (k := v.slot) rfl rfl rfl hvo.1 (fun hn => absurd hn (by rw [hget]; simp)) (fun u p hu2 hou => ?_)
      rw [hget] at hu2
      obtain rfl := Option.some.inj hu2
      simp only [List.cons_append, List.nil_append]
      refine TL_call rfl rfl (acCopied_spec v sln hvo.2.2.2) ?_
      rintro _ _ ⟨q, rfl, rfl⟩
      refine TL_freeze_osl ?_
      refine TL_build_slice rfl rfl rfl rfl rfl rfl ?_
      intro b30
      refine TL_osl (k := 1) votedR [v] (cells_one' (ex_rep q (sep_sl slk) hvo)) rfl (by decide) ?_
      refine TL_freeze_osl ?_
      refine TL_name 30 (v' := .slice (some ⟨b30, 0, none⟩) [v].length 1) rfl rfl ?_
      refine TL_append rfl rfl rfl rfl rfl slk (by simp only [List.length_cons, List.length_nil]; omega) ?_
      intro A31 c31
      rw [← hsn]
      refine TL_y rfl rfl (Y_assign rfl) ?_
      refine TL_nil ?_
      refine inB_normal ?_
      refine thenS_normal ?_
      refine T_region_last ?_
      refine TL_y rfl rfl (Y_add rfl rfl (by omega)) ?_
      refine TL_name 32 (v' := .int .i64 ((i + 1 : Nat) : Int)) rfl (rfl) ?_
      refine TL_y rfl rfl (Y_move rfl) ?_
      refine TL_gives (show Gives _ (osl votedR 50 none 0 (aboveV (s.V.take 0) slot) :: _) from osl_nil votedR 50 none _) ?_
      refine TL_nil ?_
      refine thenS_normal ?_
      exact ⟨⟨i + 1, A31, c31⟩, (by simp only; omega), by simp only; omega, holds_to (sub_cons rfl (sub_cons rfl (sub_cons rfl (sub_cons rfl (sub_cons rfl (sub_cons rfl (sub_nil))))))) GivesTo.g⟩
    · rw [if_neg h21, List.append_nil] at hsn
      rw [← hsn]
      refine T_skip ?_
      refine inB_normal ?_
      refine thenS_normal ?_
      refine T_region_last ?_
      refine TL_y rfl rfl (Y_add rfl rfl (by omega)) ?_
      refine TL_name 32 (v' := .int .i64 ((i + 1 : Nat) : Int)) rfl (rfl) ?_
      refine TL_y rfl rfl (Y_move rfl) ?_
      refine TL_gives (show Gives _ (osl votedR 50 none 0 (aboveV (s.V.take 0) slot) :: _) from osl_nil votedR 50 none _) ?_
      refine TL_nil ?_
      refine thenS_normal ?_
      exact ⟨⟨i + 1, X, cx⟩, (by simp only; omega), by simp only; omega, holds_to (sub_cons rfl (sub_cons rfl (sub_cons rfl (sub_cons rfl (sub_cons rfl (sub_cons rfl (sub_nil))))))) GivesTo.g⟩
  · refine T_exit ?_
    refine thenS_exit ?_
    refine thenS_exit ?_
    refine inB_hit ?_
    refine thenS_normal ?_
    refine T_region ?_
    refine TL_y rfl rfl (Y_move rfl) ?_
    refine TL_y rfl rfl (Y_assign rfl) ?_
    refine TL_nil ?_
    refine T_ret ?_
    rw [List.take_of_length_le (show s.V.length ≤ i by omega)]
    refine RetQ.gives (ac_close b s hi) ?_
    refine RetQ.gives (show Gives _ (osl votedR 50 X cx (aboveV s.V slot) :: ac b s :: L) from GivesTo.g) ?_
    exact RetG_1 (.inl rfl) rfl (ResV.tmp rfl) GivesTo.g (⟨X, cx, rfl, rfl⟩)
end Go.SL
set_option linter.unusedVariables false
set_option linter.unusedSimpArgs false
namespace Go.SL
open Go Go.Lib
section
variable {P : Program} {E : Env} {L : List HP} {ty : TypeId} {A : Option Addr} {c : Nat}
theorem Y_bytes_strN {x : Operand} {src dst0 e : TypeId} {xs : List Int} [h1 : TyDesc P src (.slice e)] [h2 : TyDesc P e (.int .u8)] [h3 : TyDesc P dst0 .string] (hx : ev E x = some (.slice A xs.length c)) (hk : SlN L (intR .u8) A c xs) : Yl P E L (.convert src dst0 x) ty (.string (strOfNums xs)) := fun n D W a w dst pos af g ha hs => by
  obtain ⟨M, k, hd, hM, hk', hsep⟩ := hs.ex
  have hsl := hk M k (heapOf w) hd hsep hM hk'
  have hconv : (convert src dst0 (.slice A xs.length c)).run P w = .ok (.string (strOfNums xs)) w := by
    rcases hsl.2.2 with rfl | ⟨b, o, rfl, cur, t, fr, hb, hall⟩
    · cases A with
      | none => exact run_convert_bytes_nil w src e h1.under h2.under _ _ dst0 h3.under
      | some ad =>
        simp [convert, h1.run, h2.run, h3.run, Conv.bytesToString, loadCells, loadCellsFrom, strOfNums]
        rfl
    · refine run_convert_bytes_arg w src e h1.under h2.under b o xs.length c xs rfl (fun i hi => ?_) dst0 h3.under
      obtain ⟨l, hl, hc⟩ := hall i _ (List.getElem?_eq_getElem hi)
      have := hc 0 _ (by rw [hl.1]; rfl)
      rw [cell_of hb]
      have e1 : (intR .u8).sz = 1 := rfl
      rw [e1, Nat.mul_one, Nat.add_zero] at this
      rw [this]
      simp [List.getD, List.getElem?_eq_getElem hi]
  simp [execOp, ha.ev hx, hconv]
end
section
variable {r : Option Nat} {n : Nat} {P : Program} {ops : Array Oper} {rest : List Oper} {K : St → Prop} {D : List Deferred} {E : Env} {L L0 : List HP} {d : Nat} {ty : TypeId} {pos : String} {af : Array Edge}
end
end Go.SL
set_option linter.unusedVariables false
set_option linter.unusedSimpArgs false
namespace Go.SL
open Go Go.Proofs
theorem Y_ac {P : Program} {E : Env} {L L0 : List HP} {ty : TypeId} {b : Nat} {s : AccD} {op : Op} {v : Value} [hf : FindK L b (ac b s) L0] (h : ∀ bt, Yl P E (cells b [.int .i64 s.node, .int .i64 s.prom.1, .int .i64 s.prom.2, .map (some bt)] 113 :: omap intK votedR true bt (vmap s.V) :: L0) op ty v) : Yl P E L op ty v := fun n D W a w dst pos af gd ha hs => by
  obtain ⟨bt, _, hs'⟩ := ac_open (hs.gives hf.g)
  exact h bt n D W a w dst pos af gd ha hs'
end Go.SL
set_option linter.unusedVariables false
set_option linter.unusedSimpArgs false
namespace Go.SL
open Go Go.Proofs
theorem equalInts_spec {L : List HP} {A B : Option Addr} {c d : Nat} {xs ys : List Int} (hk : SlN L (intR .i64) A c xs) (hk2 : SlN L (intR .i64) B d ys) : Fn Try.prog 96 #[.slice A xs.length c, .slice B ys.length d] L (fun v L' => v = .bool (decide (xs = ys)) ∧ L' = L) := by
  refine Fn_enter Try.func96 rfl rfl rfl rfl ?_
  refine hk.lens fun hl => ?_
  simp only [maxEl] at hl
  refine T_region ?_
  refine TL_y rfl rfl (Y_assign rfl) ?_
  refine TL_nil ?_
  refine T_seq ?_
  refine T_region ?_
  refine TL_y rfl rfl (Y_move rfl) ?_
  refine TL_y rfl rfl (Y_len rfl) ?_
  refine TL_y rfl rfl (Y_move rfl) ?_
  refine TL_y rfl rfl (Y_len rfl) ?_
  refine TL_y rfl rfl (Y_ne rfl rfl) ?_
  refine TL_nil ?_
  refine T_if rfl (fun h10 => ?_) (fun h10 => ?_)
  · refine T_region ?_
    refine TL_y rfl rfl (Y_assign rfl) ?_
    refine TL_nil ?_
    refine T_ret ?_
    refine thenS_ret ?_
    exact RetG_1 (.inl rfl) rfl (ResV.tmp rfl) GivesTo.g (⟨by rw [decide_eq_false]; rintro rfl; exact h10 rfl, rfl⟩)
  · refine T_skip ?_
    refine thenS_normal ?_
    refine T_seq ?_
    refine T_region ?_
    refine TL_y rfl rfl (Y_move rfl) ?_
    refine TL_y rfl rfl (Y_len rfl) ?_
    refine TL_y rfl rfl (Y_move rfl) ?_
    refine TL_nil ?_
    refine T_block ?_
    refine T_loopK (σ := Nat) [0, 1, 12] (fun i => i ≤ xs.length ∧ xs.take i = ys.take i) (fun i kv => (13, .int .i64 (i : Int)) :: kv) (fun i => L) (fun i => xs.length - i) (0) rfl (⟨Nat.zero_le _, rfl⟩) (GivesTo.g) (sub_cons rfl (sub_cons rfl (sub_cons rfl (sub_cons rfl (sub_nil))))) ?_
    intro i hi
    refine T_region ?_
    refine TL_y rfl rfl (Y_lt rfl rfl) ?_
    refine TL_nil ?_
    refine T_seq ?_
    refine T_if rfl (fun h14 => ?_) (fun h14 => ?_)
    · refine T_skip ?_
      refine thenS_normal ?_
      refine T_seq ?_
      refine T_block ?_
      refine T_region ?_
      refine TL_y rfl rfl (Y_move rfl) ?_
      refine TL_y rfl rfl (Y_assign rfl) ?_
      refine TL_nil ?_
      have hx := List.getElem?_eq_getElem (show i < xs.length by omega)
      have hy := List.getElem?_eq_getElem (show i < ys.length by omega)
      refine T_addr_n hk hx fun b1 o1 e1 => ?_
      refine T_addr_n hk2 hy fun b2 o2 e2 => ?_
      subst e1
      subst e2
      refine T_region_draw _ [0, 0, 3, 7, 0, 0, 48, 112, 255] [] [(0, true), (1, true), (2, true), (3, true), (4, true), (5, true), (6, true), (7, true), (8, true)] (by kernel_rfl) (by decide +kernel) (Gives.refl _) ?_
      refine TF_y rfl rfl (Y_move rfl) ?_
      refine TF_y rfl rfl (Y_move rfl) ?_
      refine TF_y rfl rfl (Y_index_n (R := intR .i64) (xs := xs) rfl rfl rfl hx) ?_
      refine TF_y rfl rfl (Y_load_n (q := 0) rfl hk hx rfl) ?_
      refine TF_y rfl rfl (Y_move rfl) ?_
      refine TF_y rfl rfl (Y_move rfl) ?_
      refine TF_y rfl rfl (Y_index_n (R := intR .i64) (xs := ys) rfl rfl rfl hy) ?_
      refine TF_y rfl rfl (Y_load_n (q := 0) rfl hk2 hy rfl) ?_
      refine TF_y rfl rfl (Y_ne rfl rfl) ?_
      refine TF_nil ?_
      refine T_if rfl (fun h24 => ?_) (fun h24 => ?_)
      · refine T_region ?_
        refine TL_y rfl rfl (Y_assign rfl) ?_
        refine TL_nil ?_
        refine T_ret ?_
        refine inB_ret ?_
        refine thenS_ret ?_
        refine thenS_ret ?_
        refine inB_ret ?_
        refine thenS_ret ?_
        exact RetG_1 (.inl rfl) rfl (ResV.tmp rfl) GivesTo.g (⟨by rw [decide_eq_false]; rintro rfl; exact h24 rfl, rfl⟩)
      · refine T_skip ?_
        refine inB_normal ?_
        refine thenS_normal ?_
        refine T_region_last ?_
        refine TL_y rfl rfl (Y_add rfl rfl (by omega)) ?_
        refine TL_name 25 (v' := .int .i64 ((i + 1 : Nat) : Int)) rfl (by simp) ?_
        refine TL_y rfl rfl (Y_move rfl) ?_
        refine TL_nil ?_
        refine thenS_normal ?_
        exact ⟨i + 1, ⟨by omega, takeStep hi.2 hx hy (Classical.not_not.1 h24)⟩, by omega, holds_to (sub_cons rfl (sub_cons rfl (sub_cons rfl (sub_cons rfl (sub_nil))))) GivesTo.g⟩
    · refine T_exit ?_
      refine thenS_exit ?_
      refine thenS_exit ?_
      refine inB_hit ?_
      refine thenS_normal ?_
      refine T_region ?_
      refine TL_y rfl rfl (Y_assign rfl) ?_
      refine TL_nil ?_
      refine T_ret ?_
      exact RetG_1 (.inl rfl) rfl (ResV.tmp rfl) GivesTo.g (⟨by rw [decide_eq_true (takeAll hi.2 (by omega) (by omega))], rfl⟩)
end Go.SL
set_option linter.unusedVariables false
set_option linter.unusedSimpArgs false
namespace Go.SL
open Go Go.Proofs
noncomputable def judgeV (s : AccD) (m : MsgD) : Value := .agg #[.string (recA s m), .bool (decide (mineA s m)), .bool (decide (mineA s m ∧ nackA s m))]
set_option maxRecDepth 20000 in
theorem acJudge_bad {L : List HP} {b : Nat} {s : AccD} (m : MsgD) (p : MsgP) (hx : MsgOk m) (hk : MsgK L m p) (hc : cMsg m ≤ 140737488355328) (hm : ¬ mineA s m) : Fn Try.prog 62 #[.pointer (some ⟨b, 0, none⟩), .agg (List.toArray (msgC m p))] (ac b s :: L) (fun v L' => v = judgeV s m ∧ L' = ac b s :: L) := by
  refine Fn_enter Try.func62 rfl rfl rfl rfl ?_
  refine T_region ?_
  refine TL_box rfl rfl rfl ?_
  intro b3
  refine TL_alloc rfl rfl ?_
  intro b4
  refine TL_nil ?_
  refine T_region ?_
  refine TL_y rfl rfl (Y_load_agg rfl rfl) ?_
  refine TL_call rfl rfl (msg_spec m p hx hk.tail.tail.tail hc) ?_
  rintro _ _ ⟨A16, c16, rfl, rfl⟩
  refine TL_y rfl rfl (Y_move rfl) ?_
  refine TL_y rfl rfl (Y_extract rfl rfl) ?_
  refine TL_y rfl rfl (Y_extract rfl rfl) ?_
  refine TL_y rfl rfl (Y_assign rfl) ?_
  refine TL_y rfl rfl (Y_assign rfl) ?_
  refine TL_nil ?_
  refine T_seq ?_
  refine T_region_draw _ [0, 1, 3, 7, 15, 31, 63, 127, 255, 511, 255, 1279, 3327, 7423, 16383, 32767, 65535, 131071, 262143, 524287, 1048575, 2097151, 4194303, 8388607, 16777215, 33554431] [] [(0, true), (1, false), (2, true), (3, true), (4, true), (5, true), (6, true), (7, true), (8, true), (9, true), (10, true), (11, true), (12, true), (13, true), (14, true), (15, true), (16, true), (17, true), (18, true), (19, true), (20, true), (21, true), (22, true), (23, true), (24, true), (25, true)] (by kernel_rfl) (by decide +kernel) (Gives.refl _) ?_
  refine TF_y rfl rfl (Y_move rfl) ?_
  refine TF_anchor rfl ?_
  refine TL_pullk b ?_
  refine TL_call rfl rfl (acMade_spec) ?_
  rintro _ _ ⟨rfl, rfl⟩
  refine TL_name 20 (v' := .bool true) rfl (rfl) ?_
  refine TF_end GivesTo.g ?_
  refine TF_y rfl rfl (Y_not_t rfl) ?_
  refine TF_y rfl rfl (Y_move rfl) ?_
  refine TF_gy rfl rfl rfl rfl (Y_move rfl) ?_
  refine TF_gy rfl rfl rfl rfl (Y_ne rfl rfl) ?_
  refine TF_y rfl rfl (Y_pick_f rfl rfl) ?_
  refine TF_y rfl rfl (Y_move rfl) ?_
  refine TF_splitd 26 rfl (fun h26 => ?_) (fun h26 => ?_)
  · refine TF_gskip rfl rfl rfl rfl rfl ?_
    refine TF_gskip rfl rfl rfl rfl rfl ?_
    refine TF_gskip rfl rfl rfl rfl rfl ?_
    refine TF_gskip rfl rfl rfl rfl rfl ?_
    refine TF_gskip rfl rfl rfl rfl rfl ?_
    refine TF_gskip rfl rfl rfl rfl rfl ?_
    refine TF_gskip rfl rfl rfl rfl rfl ?_
    refine TF_y rfl rfl (Y_pick_t rfl rfl) ?_
    refine TF_y rfl rfl (Y_move rfl) ?_
    refine TF_gskip rfl rfl rfl rfl rfl ?_
    refine TF_gskip rfl rfl rfl rfl rfl ?_
    refine TF_gskip rfl rfl rfl rfl rfl ?_
    refine TF_gskip rfl rfl rfl rfl rfl ?_
    refine TF_gskip_u rfl rfl rfl rfl ?_
    refine TF_gskip_u rfl rfl rfl rfl ?_
    refine TF_gskip_u rfl rfl rfl rfl ?_
    refine TF_gskip rfl rfl rfl rfl rfl ?_
    refine TF_y rfl rfl (Y_pick_t rfl rfl) ?_
    refine TF_nil ?_
    refine T_cond_true rfl ?_
    refine T_region ?_
    refine TL_y rfl rfl (Y_build rfl rfl) ?_
    refine TL_store rfl rfl rfl rfl rfl rfl ?_
    refine TL_nil ?_
    refine T_ret ?_
    refine thenS_ret ?_
    have hj : judgeV s m = .agg #[.string ⟨#[]⟩, .bool false, .bool false] := by unfold judgeV recA; rw [if_neg (fun h => hm h.1), decide_eq_false hm, decide_eq_false (fun h => hm h.1)]
    rw [hj]
    exact RetG_1 (.inl rfl) rfl (ResV.agg rfl rfl) GivesTo.g (⟨rfl, rfl⟩)
  · refine TF_gy rfl rfl rfl rfl (Y_field_addr rfl) ?_
    refine TF_gy rfl rfl rfl rfl (Y_load rfl rfl) ?_
    refine TF_gy rfl rfl rfl rfl (Y_move rfl) ?_
    refine TF_gy rfl rfl rfl rfl (Y_nil_check rfl) ?_
    refine TF_gy rfl rfl rfl rfl (Y_field_addr rfl) ?_
    refine TF_gy rfl rfl rfl rfl (Y_ac (b := b) fun bt => Y_load rfl rfl) ?_
    refine TF_gy rfl rfl rfl rfl (Y_ne rfl rfl) ?_
    refine TF_y rfl rfl (Y_pick_f rfl rfl) ?_
    refine TF_y rfl rfl (Y_move rfl) ?_
    refine TF_splitd 35 rfl (fun h35 => ?_) (fun h35 => ?_)
    · refine TF_gskip rfl rfl rfl rfl rfl ?_
      refine TF_gskip rfl rfl rfl rfl rfl ?_
      refine TF_gskip rfl rfl rfl rfl rfl ?_
      refine TF_gskip rfl rfl rfl rfl rfl ?_
      refine TF_gskip_u rfl rfl rfl rfl ?_
      refine TF_gskip_u rfl rfl rfl rfl ?_
      refine TF_gskip_u rfl rfl rfl rfl ?_
      refine TF_gskip rfl rfl rfl rfl rfl ?_
      refine TF_y rfl rfl (Y_pick_t rfl rfl) ?_
      refine TF_nil ?_
      refine T_cond_true rfl ?_
      refine T_region ?_
      refine TL_y rfl rfl (Y_build rfl rfl) ?_
      refine TL_store rfl rfl rfl rfl rfl rfl ?_
      refine TL_nil ?_
      refine T_ret ?_
      refine thenS_ret ?_
      have hj : judgeV s m = .agg #[.string ⟨#[]⟩, .bool false, .bool false] := by unfold judgeV recA; rw [if_neg (fun h => hm h.1), decide_eq_false hm, decide_eq_false (fun h => hm h.1)]
      rw [hj]
      exact RetG_1 (.inl rfl) rfl (ResV.agg rfl rfl) GivesTo.g (⟨rfl, rfl⟩)
    · refine TF_gy rfl rfl rfl rfl (Y_field_addr rfl) ?_
      refine TF_gy rfl rfl rfl rfl (Y_load rfl rfl) ?_
      refine TF_gy rfl rfl rfl rfl (Y_ne rfl rfl) ?_
      refine TF_name 38 (v' := .bool true) rfl (congrArg Value.bool (decide_eq_true (by unfold mineA at hm; omega))) ?_
      refine TF_gy rfl rfl rfl rfl (Y_move rfl) ?_
      refine TF_gy rfl rfl rfl rfl (Y_field_addr rfl) ?_
      refine TF_gy rfl rfl rfl rfl (Y_load rfl rfl) ?_
      refine TF_gy rfl rfl rfl rfl (Y_ne rfl rfl) ?_
      refine TF_name 42 (v' := .bool true) rfl (congrArg Value.bool (decide_eq_true (by unfold mineA at hm; omega))) ?_
      refine TF_gy rfl rfl rfl rfl (Y_pick_t rfl rfl) ?_
      refine TF_y rfl rfl (Y_pick_f rfl rfl) ?_
      refine TF_nil ?_
      refine T_cond_true rfl ?_
      refine T_region ?_
      refine TL_y rfl rfl (Y_build rfl rfl) ?_
      refine TL_store rfl rfl rfl rfl rfl rfl ?_
      refine TL_nil ?_
      refine T_ret ?_
      refine thenS_ret ?_
      have hj : judgeV s m = .agg #[.string ⟨#[]⟩, .bool false, .bool false] := by unfold judgeV recA; rw [if_neg (fun h => hm h.1), decide_eq_false hm, decide_eq_false (fun h => hm h.1)]
      rw [hj]
      exact RetG_1 (.inl rfl) rfl (ResV.agg rfl rfl) GivesTo.g (⟨rfl, rfl⟩)
set_option maxRecDepth 20000 in
theorem acJudge_prep {L : List HP} {b : Nat} {s : AccD} (m : MsgD) (p : MsgP) (hx : MsgOk m) (hk : MsgK L m p) (hc : cMsg m ≤ 140737488355328) (hm : mineA s m) (h1 : m.kind = 1) : Fn Try.prog 62 #[.pointer (some ⟨b, 0, none⟩), .agg (List.toArray (msgC m p))] (ac b s :: L) (fun v L' => v = judgeV s m ∧ L' = ac b s :: L) := by
  refine Fn_enter Try.func62 rfl rfl rfl rfl ?_
  refine T_region ?_
  refine TL_box rfl rfl rfl ?_
  intro b3
  refine TL_alloc rfl rfl ?_
  intro b4
  refine TL_nil ?_
  refine T_region ?_
  refine TL_y rfl rfl (Y_load_agg rfl rfl) ?_
  refine TL_call rfl rfl (msg_spec m p hx hk.tail.tail.tail hc) ?_
  rintro _ _ ⟨A16, c16, rfl, rfl⟩
  refine TL_y rfl rfl (Y_move rfl) ?_
  refine TL_y rfl rfl (Y_extract rfl rfl) ?_
  refine TL_y rfl rfl (Y_extract rfl rfl) ?_
  refine TL_y rfl rfl (Y_assign rfl) ?_
  refine TL_y rfl rfl (Y_assign rfl) ?_
  refine TL_nil ?_
  refine T_seq ?_
  refine T_region_draw _ [0, 1, 3, 7, 15, 31, 63, 127, 255, 511, 255, 1279, 3327, 7423, 16383, 32767, 65535, 131071, 262143, 524287, 1048575, 2097151, 4194303, 8388607, 16777215, 33554431] [] [(0, true), (1, false), (2, true), (3, true), (4, true), (5, true), (6, true), (7, true), (8, true), (9, true), (10, true), (11, true), (12, true), (13, true), (14, true), (15, true), (16, true), (17, true), (18, true), (19, true), (20, true), (21, true), (22, true), (23, true), (24, true), (25, true)] (by kernel_rfl) (by decide +kernel) (Gives.refl _) ?_
  refine TF_y rfl rfl (Y_move rfl) ?_
  refine TF_anchor rfl ?_
  refine TL_pullk b ?_
  refine TL_call rfl rfl (acMade_spec) ?_
  rintro _ _ ⟨rfl, rfl⟩
  refine TL_name 20 (v' := .bool true) rfl (rfl) ?_
  refine TF_end GivesTo.g ?_
  refine TF_y rfl rfl (Y_not_t rfl) ?_
  refine TF_y rfl rfl (Y_move rfl) ?_
  refine TF_gy rfl rfl rfl rfl (Y_move rfl) ?_
  refine TF_gy rfl rfl rfl rfl (Y_ne rfl rfl) ?_
  refine TF_name 24 (v' := .bool false) rfl (congrArg Value.bool (decide_eq_false (by have := hm.1; omega))) ?_
  refine TF_y rfl rfl (Y_pick_f rfl rfl) ?_
  refine TF_y rfl rfl (Y_move rfl) ?_
  refine TF_gy rfl rfl rfl rfl (Y_field_addr rfl) ?_
  refine TF_gy rfl rfl rfl rfl (Y_load rfl rfl) ?_
  refine TF_gy rfl rfl rfl rfl (Y_move rfl) ?_
  refine TF_gy rfl rfl rfl rfl (Y_nil_check rfl) ?_
  refine TF_gy rfl rfl rfl rfl (Y_field_addr rfl) ?_
  refine TF_gy rfl rfl rfl rfl (Y_ac (b := b) fun bt => Y_load rfl rfl) ?_
  refine TF_gy rfl rfl rfl rfl (Y_ne rfl rfl) ?_
  refine TF_name 33 (v' := .bool false) rfl (congrArg Value.bool (decide_eq_false (by have := hm.2.1; omega))) ?_
  refine TF_y rfl rfl (Y_pick_f rfl rfl) ?_
  refine TF_y rfl rfl (Y_move rfl) ?_
  refine TF_gy rfl rfl rfl rfl (Y_field_addr rfl) ?_
  refine TF_gy rfl rfl rfl rfl (Y_load rfl rfl) ?_
  refine TF_gy rfl rfl rfl rfl (Y_ne rfl rfl) ?_
  refine TF_name 38 (v' := .bool false) rfl (congrArg Value.bool (decide_eq_false (by omega))) ?_
  refine TF_gy rfl rfl rfl rfl (Y_move rfl) ?_
  refine TF_gskip rfl rfl rfl rfl rfl ?_
  refine TF_gskip rfl rfl rfl rfl rfl ?_
  refine TF_gskip rfl rfl rfl rfl rfl ?_
  refine TF_gy rfl rfl rfl rfl (Y_pick_f rfl rfl) ?_
  refine TF_y rfl rfl (Y_pick_f rfl rfl) ?_
  refine TF_nil ?_
  refine T_cond_false rfl ?_
  refine T_skip ?_
  refine thenS_normal ?_
  rcases hg : getM (vmap s.V) m.slot with _ | u
  · refine T_pullk b ?_
    refine T_ac fun bt hi => ?_
    refine T_rd [0, 1, 3, 7, 0, 16, 63, 127, 255, 255, 0, 1535, 4095] (by kernel_rfl) (by decide +kernel) ?_
    refine RD_pair 6 10 (by decide) ?_ ?_
    · refine RD_leaf _ [0, 1, 3, 7, 0, 16, 63, 127, 255, 255, 127, 1535, 4095] [] [(0, true), (1, true), (2, true), (3, true), (4, true), (5, true), (6, false), (7, true), (8, true), (9, true), (10, false), (11, false), (12, true)] (by decide +kernel) (Gives.refl _) ?_
      refine TF_y rfl rfl (Y_move rfl) ?_
      refine TF_y rfl rfl (Y_nil_check rfl) ?_
      refine TF_y rfl rfl (Y_field_addr rfl) ?_
      refine TF_y rfl rfl (Y_load rfl rfl) ?_
      refine TF_y rfl rfl (Y_field_addr rfl) ?_
      refine TF_y rfl rfl (Y_load rfl rfl) ?_
      refine TF_anchor rfl ?_
      refine TL_lookup_okx (R := votedR) (k := m.slot) rfl rfl rfl hx.slot (fun hn => ?_) (fun u p hu hou => absurd hu (by rw [hg]; simp))
      refine TF_end GivesTo.g ?_
      refine TF_y rfl rfl (Y_move rfl) ?_
      refine TF_y rfl rfl (Y_extract rfl rfl) ?_
      refine TF_y rfl rfl (Y_extract rfl rfl) ?_
      refine TF_anchor rfl ?_
      refine TL_alloc rfl rfl ?_
      intro b7
      refine TF_end GivesTo.g ?_
      refine TF_anchor rfl ?_
      refine TL_store rfl rfl rfl rfl rfl rfl ?_
      refine TF_end GivesTo.g ?_
      refine TF_y rfl rfl (Y_assign rfl) ?_
      refine TF_nil ?_
      refine thenS_normal ?_
      refine T_region ?_
      refine TL_y rfl rfl (Y_field_addr rfl) ?_
      refine TL_y rfl rfl (Y_load rfl rfl) ?_
      refine TL_y rfl rfl (Y_eq rfl rfl) ?_
      refine TL_name 58 (v' := .bool false) rfl (congrArg Value.bool (decide_eq_false (by omega))) ?_
      refine TL_y rfl rfl (Y_assign rfl) ?_
      refine TL_nil ?_
      refine T_seq ?_
      refine T_region_draw _ [0, 1, 0, 4, 12, 28, 63, 127, 255, 511, 1023, 2047, 4095, 8191, 16383, 32767, 65535, 131071, 262143, 524287, 1048575, 2097151, 4194303] [] [(0, true), (1, true), (2, true), (3, true), (4, true), (5, true), (6, false), (7, true), (8, true), (9, true), (10, true), (11, true), (12, true), (13, true), (14, true), (15, true), (16, true), (17, true), (18, true), (19, true), (20, true), (21, true), (22, true)] (by kernel_rfl) (by decide +kernel) (Gives.refl _) ?_
      refine TF_y rfl rfl (Y_field_addr rfl) ?_
      refine TF_y rfl rfl (Y_load_agg rfl rfl) ?_
      refine TF_y rfl rfl (Y_move rfl) ?_
      refine TF_y rfl rfl (Y_nil_check rfl) ?_
      refine TF_y rfl rfl (Y_field_addr rfl) ?_
      refine TF_y rfl rfl (Y_load_agg rfl rfl) ?_
      refine TF_anchor rfl ?_
      refine TL_call rfl rfl (compare_spec m.bal s.prom _) ?_
      rintro _ _ ⟨rfl, rfl⟩
      refine TF_end GivesTo.g ?_
      refine TF_y rfl rfl (Y_lt rfl rfl) ?_
      refine TF_y rfl rfl (Y_move rfl) ?_
      refine TF_splitd 67 rfl (fun h67 => ?_) (fun h67 => ?_)
      · refine TF_gskip rfl rfl rfl rfl rfl ?_
        refine TF_gskip rfl rfl rfl rfl rfl ?_
        refine TF_gskip_u rfl rfl rfl rfl ?_
        refine TF_gskip_u rfl rfl rfl rfl ?_
        refine TF_gskip rfl rfl rfl rfl rfl ?_
        refine TF_gskip rfl rfl rfl rfl rfl ?_
        refine TF_gskip_u rfl rfl rfl rfl ?_
        refine TF_gskip_u rfl rfl rfl rfl ?_
        refine TF_gskip_u rfl rfl rfl rfl ?_
        refine TF_gskip_u rfl rfl rfl rfl ?_
        refine TF_gskip_u rfl rfl rfl rfl ?_
        refine TF_gskip_u rfl rfl rfl rfl ?_
        refine TF_gskip rfl rfl rfl rfl rfl ?_
        refine TF_y rfl rfl (Y_pick_t rfl rfl) ?_
        refine TF_nil ?_
        refine T_cond_true rfl ?_
        refine T_region ?_
        refine TL_y rfl rfl (Y_build rfl rfl) ?_
        refine TL_store rfl rfl rfl rfl rfl rfl ?_
        refine TL_nil ?_
        refine T_ret ?_
        refine thenS_ret ?_
        have hn : nackA s m := .inl (by omega)
        have hj : judgeV s m = .agg #[.string ⟨#[]⟩, .bool true, .bool true] := by unfold judgeV recA; rw [if_neg (fun h => h.2.1 hn), decide_eq_true hm, decide_eq_true (And.intro hm hn)]
        rw [hj]
        refine RetQ.gives (ac_close b s hi) ?_
        exact RetG_1 (.inl rfl) rfl (ResV.agg rfl rfl) GivesTo.g (⟨rfl, rfl⟩)
      · refine TF_gy rfl rfl rfl rfl (Y_move rfl) ?_
        refine TF_gy rfl rfl rfl rfl (Y_move rfl) ?_
        refine TF_gskip rfl rfl rfl rfl rfl ?_
        refine TF_gskip rfl rfl rfl rfl rfl ?_
        refine TF_gy rfl rfl rfl rfl (Y_pick_f rfl rfl) ?_
        refine TF_gy rfl rfl rfl rfl (Y_move rfl) ?_
        refine TF_gskip rfl rfl rfl rfl rfl ?_
        refine TF_gskip rfl rfl rfl rfl rfl ?_
        refine TF_gskip rfl rfl rfl rfl rfl ?_
        refine TF_gskip rfl rfl rfl rfl rfl ?_
        refine TF_gskip rfl rfl rfl rfl rfl ?_
        refine TF_gskip rfl rfl rfl rfl rfl ?_
        refine TF_gy rfl rfl rfl rfl (Y_pick_f rfl rfl) ?_
        refine TF_y rfl rfl (Y_pick_f rfl rfl) ?_
        refine TF_nil ?_
        refine T_cond_false rfl ?_
        refine T_skip ?_
        refine thenS_normal ?_
        have hn : ¬ nackA s m := by unfold nackA; omega
        refine T_region_draw _ [0, 1, 3, 7, 0, 16, 63, 127] [] [(0, true), (1, true), (2, true), (3, true), (4, true), (5, true), (6, true), (7, true)] (by kernel_rfl) (by decide +kernel) (Gives.refl _) ?_
        refine TF_y rfl rfl (Y_move rfl) ?_
        refine TF_y rfl rfl (Y_nil_check rfl) ?_
        refine TF_y rfl rfl (Y_field_addr rfl) ?_
        refine TF_y rfl rfl (Y_load_agg rfl rfl) ?_
        refine TF_y rfl rfl (Y_field_addr rfl) ?_
        refine TF_y rfl rfl (Y_load_agg rfl rfl) ?_
        refine TF_y rfl rfl (Y_ne_bal rfl rfl) ?_
        refine TF_name 89 (v' := .bool (decide (s.prom ≠ m.bal))) rfl (by by_cases h : s.prom = m.bal <;> simp [h]) ?_
        refine TF_y rfl rfl (Y_assign rfl) ?_
        refine TF_nil ?_
        refine T_seq ?_
        refine T_region ?_
        refine TL_y rfl rfl (Y_move rfl) ?_
        refine TL_nil ?_
        refine T_cond_false rfl ?_
        refine T_skip ?_
        refine thenS_normal ?_
        refine T_seq ?_
        refine T_region ?_
        refine TL_y rfl rfl (Y_move rfl) ?_
        refine TL_y rfl rfl (Y_not_d rfl) ?_
        refine TL_nil ?_
        refine T_if rfl (fun h148 => ?_) (fun h148 => ?_)
        · refine T_region_last ?_
          refine TL_y rfl rfl (Y_assign rfl) ?_
          refine TL_nil ?_
          refine thenS_normal ?_
          refine T_region ?_
          refine TL_y rfl rfl (Y_move rfl) ?_
          refine TL_name 149 (v' := .slice none ([] : List Int).length 0) rfl (rfl) ?_
          refine TL_y rfl rfl (Y_bytes_strN (A := none) (c := 0) (xs := []) rfl .nil) ?_
          refine TL_y rfl rfl (Y_build rfl rfl) ?_
          refine TL_store rfl rfl rfl rfl rfl rfl ?_
          refine TL_nil ?_
          refine T_ret ?_
          have hch : ¬ chgA s m := by unfold chgA; rintro (h | h); exact h148 h; omega
          have hj : judgeV s m = .agg #[.string (strOfNums []), .bool true, .bool false] := by unfold judgeV recA; rw [if_neg (fun h => hch h.2.2), decide_eq_true hm, decide_eq_false (fun h => hn h.2)]; rfl
          rw [hj]
          refine RetQ.gives (ac_close b s hi) ?_
          exact RetG_1 (.inl rfl) rfl (ResV.agg rfl rfl) GivesTo.g (⟨rfl, rfl⟩)
        · refine T_skip ?_
          refine thenS_normal ?_
          refine T_region ?_
          refine TL_y rfl rfl (Y_move rfl) ?_
          refine TL_y rfl rfl (Y_bytes_strN rfl sln) ?_
          refine TL_y rfl rfl (Y_build rfl rfl) ?_
          refine TL_store rfl rfl rfl rfl rfl rfl ?_
          refine TL_nil ?_
          refine T_ret ?_
          have hch : chgA s m := .inl (Classical.not_not.1 h148)
          have hj : judgeV s m = .agg #[.string (strOfNums (outB (wMsg m ([], false)))), .bool true, .bool false] := by unfold judgeV recA; rw [if_pos ⟨hm, hn, hch⟩, decide_eq_true hm, decide_eq_false (fun h => hn h.2)]
          rw [hj]
          refine RetQ.gives (ac_close b s hi) ?_
          exact RetG_1 (.inl rfl) rfl (ResV.agg rfl rfl) GivesTo.g (⟨rfl, rfl⟩)
    · refine RD_leaf _ [0, 1, 3, 7, 0, 16, 1087, 1151, 1279, 1279, 0, 1535, 4095] [] [(0, true), (1, true), (2, true), (3, true), (4, true), (5, true), (10, false), (6, false), (7, true), (8, true), (9, true), (11, false), (12, true)] (by decide +kernel) (Gives.refl _) ?_
      refine TF_y rfl rfl (Y_move rfl) ?_
      refine TF_y rfl rfl (Y_nil_check rfl) ?_
      refine TF_y rfl rfl (Y_field_addr rfl) ?_
      refine TF_y rfl rfl (Y_load rfl rfl) ?_
      refine TF_y rfl rfl (Y_field_addr rfl) ?_
      refine TF_y rfl rfl (Y_load rfl rfl) ?_
      refine TF_anchor rfl ?_
      refine TL_alloc rfl rfl ?_
      intro b7
      refine TF_end GivesTo.g ?_
      refine TF_anchor rfl ?_
      refine TL_lookup_okx (R := votedR) (k := m.slot) rfl rfl rfl hx.slot (fun hn => ?_) (fun u p hu hou => absurd hu (by rw [hg]; simp))
      refine TF_end GivesTo.g ?_
      refine TF_y rfl rfl (Y_move rfl) ?_
      refine TF_y rfl rfl (Y_extract rfl rfl) ?_
      refine TF_y rfl rfl (Y_extract rfl rfl) ?_
      refine TF_anchor rfl ?_
      refine TL_store rfl rfl rfl rfl rfl rfl ?_
      refine TF_end GivesTo.g ?_
      refine TF_y rfl rfl (Y_assign rfl) ?_
      refine TF_nil ?_
      refine thenS_normal ?_
      refine T_region ?_
      refine TL_y rfl rfl (Y_field_addr rfl) ?_
      refine TL_y rfl rfl (Y_load rfl rfl) ?_
      refine TL_y rfl rfl (Y_eq rfl rfl) ?_
      refine TL_name 58 (v' := .bool false) rfl (congrArg Value.bool (decide_eq_false (by omega))) ?_
      refine TL_y rfl rfl (Y_assign rfl) ?_
      refine TL_nil ?_
      refine T_seq ?_
      refine T_region_draw _ [0, 1, 0, 4, 12, 28, 63, 127, 255, 511, 1023, 2047, 4095, 8191, 16383, 32767, 65535, 131071, 262143, 524287, 1048575, 2097151, 4194303] [] [(0, true), (1, true), (2, true), (3, true), (4, true), (5, true), (6, false), (7, true), (8, true), (9, true), (10, true), (11, true), (12, true), (13, true), (14, true), (15, true), (16, true), (17, true), (18, true), (19, true), (20, true), (21, true), (22, true)] (by kernel_rfl) (by decide +kernel) (Gives.refl _) ?_
      refine TF_y rfl rfl (Y_field_addr rfl) ?_
      refine TF_y rfl rfl (Y_load_agg rfl rfl) ?_
      refine TF_y rfl rfl (Y_move rfl) ?_
      refine TF_y rfl rfl (Y_nil_check rfl) ?_
      refine TF_y rfl rfl (Y_field_addr rfl) ?_
      refine TF_y rfl rfl (Y_load_agg rfl rfl) ?_
      refine TF_anchor rfl ?_
      refine TL_call rfl rfl (compare_spec m.bal s.prom _) ?_
      rintro _ _ ⟨rfl, rfl⟩
      refine TF_end GivesTo.g ?_
      refine TF_y rfl rfl (Y_lt rfl rfl) ?_
      refine TF_y rfl rfl (Y_move rfl) ?_
      refine TF_splitd 67 rfl (fun h67 => ?_) (fun h67 => ?_)
      · refine TF_gskip rfl rfl rfl rfl rfl ?_
        refine TF_gskip rfl rfl rfl rfl rfl ?_
        refine TF_gskip_u rfl rfl rfl rfl ?_
        refine TF_gskip_u rfl rfl rfl rfl ?_
        refine TF_gskip rfl rfl rfl rfl rfl ?_
        refine TF_gskip rfl rfl rfl rfl rfl ?_
        refine TF_gskip_u rfl rfl rfl rfl ?_
        refine TF_gskip_u rfl rfl rfl rfl ?_
        refine TF_gskip_u rfl rfl rfl rfl ?_
        refine TF_gskip_u rfl rfl rfl rfl ?_
        refine TF_gskip_u rfl rfl rfl rfl ?_
        refine TF_gskip_u rfl rfl rfl rfl ?_
        refine TF_gskip rfl rfl rfl rfl rfl ?_
        refine TF_y rfl rfl (Y_pick_t rfl rfl) ?_
        refine TF_nil ?_
        refine T_cond_true rfl ?_
        refine T_region ?_
        refine TL_y rfl rfl (Y_build rfl rfl) ?_
        refine TL_store rfl rfl rfl rfl rfl rfl ?_
        refine TL_nil ?_
        refine T_ret ?_
        refine thenS_ret ?_
        have hn : nackA s m := .inl (by omega)
        have hj : judgeV s m = .agg #[.string ⟨#[]⟩, .bool true, .bool true] := by unfold judgeV recA; rw [if_neg (fun h => h.2.1 hn), decide_eq_true hm, decide_eq_true (And.intro hm hn)]
        rw [hj]
        refine RetQ.gives (ac_close b s hi) ?_
        exact RetG_1 (.inl rfl) rfl (ResV.agg rfl rfl) GivesTo.g (⟨rfl, rfl⟩)
      · refine TF_gy rfl rfl rfl rfl (Y_move rfl) ?_
        refine TF_gy rfl rfl rfl rfl (Y_move rfl) ?_
        refine TF_gskip rfl rfl rfl rfl rfl ?_
        refine TF_gskip rfl rfl rfl rfl rfl ?_
        refine TF_gy rfl rfl rfl rfl (Y_pick_f rfl rfl) ?_
        refine TF_gy rfl rfl rfl rfl (Y_move rfl) ?_
        refine TF_gskip rfl rfl rfl rfl rfl ?_
        refine TF_gskip rfl rfl rfl rfl rfl ?_
        refine TF_gskip rfl rfl rfl rfl rfl ?_
        refine TF_gskip rfl rfl rfl rfl rfl ?_
        refine TF_gskip rfl rfl rfl rfl rfl ?_
        refine TF_gskip rfl rfl rfl rfl rfl ?_
        refine TF_gy rfl rfl rfl rfl (Y_pick_f rfl rfl) ?_
        refine TF_y rfl rfl (Y_pick_f rfl rfl) ?_
        refine TF_nil ?_
        refine T_cond_false rfl ?_
        refine T_skip ?_
        refine thenS_normal ?_
        have hn : ¬ nackA s m := by unfold nackA; omega
        refine T_region_draw _ [0, 1, 3, 7, 0, 16, 63, 127] [] [(0, true), (1, true), (2, true), (3, true), (4, true), (5, true), (6, true), (7, true)] (by kernel_rfl) (by decide +kernel) (Gives.refl _) ?_
        refine TF_y rfl rfl (Y_move rfl) ?_
        refine TF_y rfl rfl (Y_nil_check rfl) ?_
        refine TF_y rfl rfl (Y_field_addr rfl) ?_
        refine TF_y rfl rfl (Y_load_agg rfl rfl) ?_
        refine TF_y rfl rfl (Y_field_addr rfl) ?_
        refine TF_y rfl rfl (Y_load_agg rfl rfl) ?_
        refine TF_y rfl rfl (Y_ne_bal rfl rfl) ?_
        refine TF_name 89 (v' := .bool (decide (s.prom ≠ m.bal))) rfl (by by_cases h : s.prom = m.bal <;> simp [h]) ?_
        refine TF_y rfl rfl (Y_assign rfl) ?_
        refine TF_nil ?_
        refine T_seq ?_
        refine T_region ?_
        refine TL_y rfl rfl (Y_move rfl) ?_
        refine TL_nil ?_
        refine T_cond_false rfl ?_
        refine T_skip ?_
        refine thenS_normal ?_
        refine T_seq ?_
        refine T_region ?_
        refine TL_y rfl rfl (Y_move rfl) ?_
        refine TL_y rfl rfl (Y_not_d rfl) ?_
        refine TL_nil ?_
        refine T_if rfl (fun h148 => ?_) (fun h148 => ?_)
        · refine T_region_last ?_
          refine TL_y rfl rfl (Y_assign rfl) ?_
          refine TL_nil ?_
          refine thenS_normal ?_
          refine T_region ?_
          refine TL_y rfl rfl (Y_move rfl) ?_
          refine TL_name 149 (v' := .slice none ([] : List Int).length 0) rfl (rfl) ?_
          refine TL_y rfl rfl (Y_bytes_strN (A := none) (c := 0) (xs := []) rfl .nil) ?_
          refine TL_y rfl rfl (Y_build rfl rfl) ?_
          refine TL_store rfl rfl rfl rfl rfl rfl ?_
          refine TL_nil ?_
          refine T_ret ?_
          have hch : ¬ chgA s m := by unfold chgA; rintro (h | h); exact h148 h; omega
          have hj : judgeV s m = .agg #[.string (strOfNums []), .bool true, .bool false] := by unfold judgeV recA; rw [if_neg (fun h => hch h.2.2), decide_eq_true hm, decide_eq_false (fun h => hn h.2)]; rfl
          rw [hj]
          refine RetQ.gives (ac_close b s hi) ?_
          exact RetG_1 (.inl rfl) rfl (ResV.agg rfl rfl) GivesTo.g (⟨rfl, rfl⟩)
        · refine T_skip ?_
          refine thenS_normal ?_
          refine T_region ?_
          refine TL_y rfl rfl (Y_move rfl) ?_
          refine TL_y rfl rfl (Y_bytes_strN rfl sln) ?_
          refine TL_y rfl rfl (Y_build rfl rfl) ?_
          refine TL_store rfl rfl rfl rfl rfl rfl ?_
          refine TL_nil ?_
          refine T_ret ?_
          have hch : chgA s m := .inl (Classical.not_not.1 h148)
          have hj : judgeV s m = .agg #[.string (strOfNums (outB (wMsg m ([], false)))), .bool true, .bool false] := by unfold judgeV recA; rw [if_pos ⟨hm, hn, hch⟩, decide_eq_true hm, decide_eq_false (fun h => hn h.2)]
          rw [hj]
          refine RetQ.gives (ac_close b s hi) ?_
          exact RetG_1 (.inl rfl) rfl (ResV.agg rfl rfl) GivesTo.g (⟨rfl, rfl⟩)
  · refine T_pullk b ?_
    refine T_ac fun bt hi => ?_
    refine T_rd [0, 1, 3, 7, 0, 16, 63, 127, 255, 255, 0, 1535, 4095] (by kernel_rfl) (by decide +kernel) ?_
    refine RD_pair 6 10 (by decide) ?_ ?_
    · refine RD_leaf _ [0, 1, 3, 7, 0, 16, 63, 127, 255, 255, 127, 1535, 4095] [] [(0, true), (1, true), (2, true), (3, true), (4, true), (5, true), (6, false), (7, true), (8, true), (9, true), (10, false), (11, false), (12, true)] (by decide +kernel) (Gives.refl _) ?_
      refine TF_y rfl rfl (Y_move rfl) ?_
      refine TF_y rfl rfl (Y_nil_check rfl) ?_
      refine TF_y rfl rfl (Y_field_addr rfl) ?_
      refine TF_y rfl rfl (Y_load rfl rfl) ?_
      refine TF_y rfl rfl (Y_field_addr rfl) ?_
      refine TF_y rfl rfl (Y_load rfl rfl) ?_
      refine TF_anchor rfl ?_
      refine TL_lookup_okx (R := votedR) (k := m.slot) rfl rfl rfl hx.slot (fun hn => absurd hn (by rw [hg]; simp)) (fun u2 p2 hu hou => ?_)
      rw [hg] at hu
      obtain rfl := Option.some.inj hu
      simp only [List.cons_append, List.nil_append]
      refine TF_end GivesTo.g ?_
      refine TF_y rfl rfl (Y_move rfl) ?_
      refine TF_y rfl rfl (Y_extract rfl rfl) ?_
      refine TF_y rfl rfl (Y_extract rfl rfl) ?_
      refine TF_anchor rfl ?_
      refine TL_alloc rfl rfl ?_
      intro b7
      refine TF_end GivesTo.g ?_
      refine TF_anchor rfl ?_
      refine TL_store rfl rfl rfl rfl rfl rfl ?_
      refine TF_end GivesTo.g ?_
      refine TF_y rfl rfl (Y_assign rfl) ?_
      refine TF_nil ?_
      refine thenS_normal ?_
      refine T_region ?_
      refine TL_y rfl rfl (Y_field_addr rfl) ?_
      refine TL_y rfl rfl (Y_load rfl rfl) ?_
      refine TL_y rfl rfl (Y_eq rfl rfl) ?_
      refine TL_name 58 (v' := .bool false) rfl (congrArg Value.bool (decide_eq_false (by omega))) ?_
      refine TL_y rfl rfl (Y_assign rfl) ?_
      refine TL_nil ?_
      refine T_seq ?_
      refine T_region_draw _ [0, 1, 0, 4, 12, 28, 63, 127, 255, 511, 1023, 2047, 4095, 8191, 16383, 32767, 65535, 131071, 262143, 524287, 1048575, 2097151, 4194303] [] [(0, true), (1, true), (2, true), (3, true), (4, true), (5, true), (6, false), (7, true), (8, true), (9, true), (10, true), (11, true), (12, true), (13, true), (14, true), (15, true), (16, true), (17, true), (18, true), (19, true), (20, true), (21, true), (22, true)] (by kernel_rfl) (by decide +kernel) (Gives.refl _) ?_
      refine TF_y rfl rfl (Y_field_addr rfl) ?_
      refine TF_y rfl rfl (Y_load_agg rfl rfl) ?_
      refine TF_y rfl rfl (Y_move rfl) ?_
      refine TF_y rfl rfl (Y_nil_check rfl) ?_
      refine TF_y rfl rfl (Y_field_addr rfl) ?_
      refine TF_y rfl rfl (Y_load_agg rfl rfl) ?_
      refine TF_anchor rfl ?_
      refine TL_call rfl rfl (compare_spec m.bal s.prom _) ?_
      rintro _ _ ⟨rfl, rfl⟩
      refine TF_end GivesTo.g ?_
      refine TF_y rfl rfl (Y_lt rfl rfl) ?_
      refine TF_y rfl rfl (Y_move rfl) ?_
      refine TF_splitd 67 rfl (fun h67 => ?_) (fun h67 => ?_)
      · refine TF_gskip rfl rfl rfl rfl rfl ?_
        refine TF_gskip rfl rfl rfl rfl rfl ?_
        refine TF_gskip_u rfl rfl rfl rfl ?_
        refine TF_gskip_u rfl rfl rfl rfl ?_
        refine TF_gskip rfl rfl rfl rfl rfl ?_
        refine TF_gskip rfl rfl rfl rfl rfl ?_
        refine TF_gskip_u rfl rfl rfl rfl ?_
        refine TF_gskip_u rfl rfl rfl rfl ?_
        refine TF_gskip_u rfl rfl rfl rfl ?_
        refine TF_gskip_u rfl rfl rfl rfl ?_
        refine TF_gskip_u rfl rfl rfl rfl ?_
        refine TF_gskip_u rfl rfl rfl rfl ?_
        refine TF_gskip rfl rfl rfl rfl rfl ?_
        refine TF_y rfl rfl (Y_pick_t rfl rfl) ?_
        refine TF_nil ?_
        refine T_cond_true rfl ?_
        refine T_region ?_
        refine TL_y rfl rfl (Y_build rfl rfl) ?_
        refine TL_store rfl rfl rfl rfl rfl rfl ?_
        refine TL_nil ?_
        refine T_ret ?_
        refine thenS_ret ?_
        have hn : nackA s m := .inl (by omega)
        have hj : judgeV s m = .agg #[.string ⟨#[]⟩, .bool true, .bool true] := by unfold judgeV recA; rw [if_neg (fun h => h.2.1 hn), decide_eq_true hm, decide_eq_true (And.intro hm hn)]
        rw [hj]
        refine RetQ.gives (ac_close b s hi) ?_
        exact RetG_1 (.inl rfl) rfl (ResV.agg rfl rfl) GivesTo.g (⟨rfl, rfl⟩)
      · refine TF_gy rfl rfl rfl rfl (Y_move rfl) ?_
        refine TF_gy rfl rfl rfl rfl (Y_move rfl) ?_
        refine TF_gskip rfl rfl rfl rfl rfl ?_
        refine TF_gskip rfl rfl rfl rfl rfl ?_
        refine TF_gy rfl rfl rfl rfl (Y_pick_f rfl rfl) ?_
        refine TF_gy rfl rfl rfl rfl (Y_move rfl) ?_
        refine TF_gskip rfl rfl rfl rfl rfl ?_
        refine TF_gskip rfl rfl rfl rfl rfl ?_
        refine TF_gskip rfl rfl rfl rfl rfl ?_
        refine TF_gskip rfl rfl rfl rfl rfl ?_
        refine TF_gskip rfl rfl rfl rfl rfl ?_
        refine TF_gskip rfl rfl rfl rfl rfl ?_
        refine TF_gy rfl rfl rfl rfl (Y_pick_f rfl rfl) ?_
        refine TF_y rfl rfl (Y_pick_f rfl rfl) ?_
        refine TF_nil ?_
        refine T_cond_false rfl ?_
        refine T_skip ?_
        refine thenS_normal ?_
        have hn : ¬ nackA s m := by unfold nackA; omega
        refine T_region_draw _ [0, 1, 3, 7, 0, 16, 63, 127] [] [(0, true), (1, true), (2, true), (3, true), (4, true), (5, true), (6, true), (7, true)] (by kernel_rfl) (by decide +kernel) (Gives.refl _) ?_
        refine TF_y rfl rfl (Y_move rfl) ?_
        refine TF_y rfl rfl (Y_nil_check rfl) ?_
        refine TF_y rfl rfl (Y_field_addr rfl) ?_
        refine TF_y rfl rfl (Y_load_agg rfl rfl) ?_
        refine TF_y rfl rfl (Y_field_addr rfl) ?_
        refine TF_y rfl rfl (Y_load_agg rfl rfl) ?_
        refine TF_y rfl rfl (Y_ne_bal rfl rfl) ?_
        refine TF_name 89 (v' := .bool (decide (s.prom ≠ m.bal))) rfl (by by_cases h : s.prom = m.bal <;> simp [h]) ?_
        refine TF_y rfl rfl (Y_assign rfl) ?_
        refine TF_nil ?_
        refine T_seq ?_
        refine T_region ?_
        refine TL_y rfl rfl (Y_move rfl) ?_
        refine TL_nil ?_
        refine T_cond_false rfl ?_
        refine T_skip ?_
        refine thenS_normal ?_
        refine T_seq ?_
        refine T_region ?_
        refine TL_y rfl rfl (Y_move rfl) ?_
        refine TL_y rfl rfl (Y_not_d rfl) ?_
        refine TL_nil ?_
        refine T_if rfl (fun h148 => ?_) (fun h148 => ?_)
        · refine T_region_last ?_
          refine TL_y rfl rfl (Y_assign rfl) ?_
          refine TL_nil ?_
          refine thenS_normal ?_
          refine T_region ?_
          refine TL_y rfl rfl (Y_move rfl) ?_
          refine TL_name 149 (v' := .slice none ([] : List Int).length 0) rfl (rfl) ?_
          refine TL_y rfl rfl (Y_bytes_strN (A := none) (c := 0) (xs := []) rfl .nil) ?_
          refine TL_y rfl rfl (Y_build rfl rfl) ?_
          refine TL_store rfl rfl rfl rfl rfl rfl ?_
          refine TL_nil ?_
          refine T_ret ?_
          have hch : ¬ chgA s m := by unfold chgA; rintro (h | h); exact h148 h; omega
          have hj : judgeV s m = .agg #[.string (strOfNums []), .bool true, .bool false] := by unfold judgeV recA; rw [if_neg (fun h => hch h.2.2), decide_eq_true hm, decide_eq_false (fun h => hn h.2)]; rfl
          rw [hj]
          refine RetQ.gives (ac_close b s hi) ?_
          exact RetG_1 (.inl rfl) rfl (ResV.agg rfl rfl) GivesTo.g (⟨rfl, rfl⟩)
        · refine T_skip ?_
          refine thenS_normal ?_
          refine T_region ?_
          refine TL_y rfl rfl (Y_move rfl) ?_
          refine TL_y rfl rfl (Y_bytes_strN rfl sln) ?_
          refine TL_y rfl rfl (Y_build rfl rfl) ?_
          refine TL_store rfl rfl rfl rfl rfl rfl ?_
          refine TL_nil ?_
          refine T_ret ?_
          have hch : chgA s m := .inl (Classical.not_not.1 h148)
          have hj : judgeV s m = .agg #[.string (strOfNums (outB (wMsg m ([], false)))), .bool true, .bool false] := by unfold judgeV recA; rw [if_pos ⟨hm, hn, hch⟩, decide_eq_true hm, decide_eq_false (fun h => hn h.2)]
          rw [hj]
          refine RetQ.gives (ac_close b s hi) ?_
          exact RetG_1 (.inl rfl) rfl (ResV.agg rfl rfl) GivesTo.g (⟨rfl, rfl⟩)
    · refine RD_leaf _ [0, 1, 3, 7, 0, 16, 1087, 1151, 1279, 1279, 0, 1535, 4095] [] [(0, true), (1, true), (2, true), (3, true), (4, true), (5, true), (10, false), (6, false), (7, true), (8, true), (9, true), (11, false), (12, true)] (by decide +kernel) (Gives.refl _) ?_
      refine TF_y rfl rfl (Y_move rfl) ?_
      refine TF_y rfl rfl (Y_nil_check rfl) ?_
      refine TF_y rfl rfl (Y_field_addr rfl) ?_
      refine TF_y rfl rfl (Y_load rfl rfl) ?_
      refine TF_y rfl rfl (Y_field_addr rfl) ?_
      refine TF_y rfl rfl (Y_load rfl rfl) ?_
      refine TF_anchor rfl ?_
      refine TL_alloc rfl rfl ?_
      intro b7
      refine TF_end GivesTo.g ?_
      refine TF_anchor rfl ?_
      refine TL_lookup_okx (R := votedR) (k := m.slot) rfl rfl rfl hx.slot (fun hn => absurd hn (by rw [hg]; simp)) (fun u2 p2 hu hou => ?_)
      rw [hg] at hu
      obtain rfl := Option.some.inj hu
      simp only [List.cons_append, List.nil_append]
      refine TF_end GivesTo.g ?_
      refine TF_y rfl rfl (Y_move rfl) ?_
      refine TF_y rfl rfl (Y_extract rfl rfl) ?_
      refine TF_y rfl rfl (Y_extract rfl rfl) ?_
      refine TF_anchor rfl ?_
      refine TL_store rfl rfl rfl rfl rfl rfl ?_
      refine TF_end GivesTo.g ?_
      refine TF_y rfl rfl (Y_assign rfl) ?_
      refine TF_nil ?_
      refine thenS_normal ?_
      refine T_region ?_
      refine TL_y rfl rfl (Y_field_addr rfl) ?_
      refine TL_y rfl rfl (Y_load rfl rfl) ?_
      refine TL_y rfl rfl (Y_eq rfl rfl) ?_
      refine TL_name 58 (v' := .bool false) rfl (congrArg Value.bool (decide_eq_false (by omega))) ?_
      refine TL_y rfl rfl (Y_assign rfl) ?_
      refine TL_nil ?_
      refine T_seq ?_
      refine T_region_draw _ [0, 1, 0, 4, 12, 28, 63, 127, 255, 511, 1023, 2047, 4095, 8191, 16383, 32767, 65535, 131071, 262143, 524287, 1048575, 2097151, 4194303] [] [(0, true), (1, true), (2, true), (3, true), (4, true), (5, true), (6, false), (7, true), (8, true), (9, true), (10, true), (11, true), (12, true), (13, true), (14, true), (15, true), (16, true), (17, true), (18, true), (19, true), (20, true), (21, true), (22, true)] (by kernel_rfl) (by decide +kernel) (Gives.refl _) ?_
      refine TF_y rfl rfl (Y_field_addr rfl) ?_
      refine TF_y rfl rfl (Y_load_agg rfl rfl) ?_
      refine TF_y rfl rfl (Y_move rfl) ?_
      refine TF_y rfl rfl (Y_nil_check rfl) ?_
      refine TF_y rfl rfl (Y_field_addr rfl) ?_
      refine TF_y rfl rfl (Y_load_agg rfl rfl) ?_
      refine TF_anchor rfl ?_
      refine TL_call rfl rfl (compare_spec m.bal s.prom _) ?_
      rintro _ _ ⟨rfl, rfl⟩
      refine TF_end GivesTo.g ?_
      refine TF_y rfl rfl (Y_lt rfl rfl) ?_
      refine TF_y rfl rfl (Y_move rfl) ?_
      refine TF_splitd 67 rfl (fun h67 => ?_) (fun h67 => ?_)
      · refine TF_gskip rfl rfl rfl rfl rfl ?_
        refine TF_gskip rfl rfl rfl rfl rfl ?_
        refine TF_gskip_u rfl rfl rfl rfl ?_
        refine TF_gskip_u rfl rfl rfl rfl ?_
        refine TF_gskip rfl rfl rfl rfl rfl ?_
        refine TF_gskip rfl rfl rfl rfl rfl ?_
        refine TF_gskip_u rfl rfl rfl rfl ?_
        refine TF_gskip_u rfl rfl rfl rfl ?_
        refine TF_gskip_u rfl rfl rfl rfl ?_
        refine TF_gskip_u rfl rfl rfl rfl ?_
        refine TF_gskip_u rfl rfl rfl rfl ?_
        refine TF_gskip_u rfl rfl rfl rfl ?_
        refine TF_gskip rfl rfl rfl rfl rfl ?_
        refine TF_y rfl rfl (Y_pick_t rfl rfl) ?_
        refine TF_nil ?_
        refine T_cond_true rfl ?_
        refine T_region ?_
        refine TL_y rfl rfl (Y_build rfl rfl) ?_
        refine TL_store rfl rfl rfl rfl rfl rfl ?_
        refine TL_nil ?_
        refine T_ret ?_
        refine thenS_ret ?_
        have hn : nackA s m := .inl (by omega)
        have hj : judgeV s m = .agg #[.string ⟨#[]⟩, .bool true, .bool true] := by unfold judgeV recA; rw [if_neg (fun h => h.2.1 hn), decide_eq_true hm, decide_eq_true (And.intro hm hn)]
        rw [hj]
        refine RetQ.gives (ac_close b s hi) ?_
        exact RetG_1 (.inl rfl) rfl (ResV.agg rfl rfl) GivesTo.g (⟨rfl, rfl⟩)
      · refine TF_gy rfl rfl rfl rfl (Y_move rfl) ?_
        refine TF_gy rfl rfl rfl rfl (Y_move rfl) ?_
        refine TF_gskip rfl rfl rfl rfl rfl ?_
        refine TF_gskip rfl rfl rfl rfl rfl ?_
        refine TF_gy rfl rfl rfl rfl (Y_pick_f rfl rfl) ?_
        refine TF_gy rfl rfl rfl rfl (Y_move rfl) ?_
        refine TF_gskip rfl rfl rfl rfl rfl ?_
        refine TF_gskip rfl rfl rfl rfl rfl ?_
        refine TF_gskip rfl rfl rfl rfl rfl ?_
        refine TF_gskip rfl rfl rfl rfl rfl ?_
        refine TF_gskip rfl rfl rfl rfl rfl ?_
        refine TF_gskip rfl rfl rfl rfl rfl ?_
        refine TF_gy rfl rfl rfl rfl (Y_pick_f rfl rfl) ?_
        refine TF_y rfl rfl (Y_pick_f rfl rfl) ?_
        refine TF_nil ?_
        refine T_cond_false rfl ?_
        refine T_skip ?_
        refine thenS_normal ?_
        have hn : ¬ nackA s m := by unfold nackA; omega
        refine T_region_draw _ [0, 1, 3, 7, 0, 16, 63, 127] [] [(0, true), (1, true), (2, true), (3, true), (4, true), (5, true), (6, true), (7, true)] (by kernel_rfl) (by decide +kernel) (Gives.refl _) ?_
        refine TF_y rfl rfl (Y_move rfl) ?_
        refine TF_y rfl rfl (Y_nil_check rfl) ?_
        refine TF_y rfl rfl (Y_field_addr rfl) ?_
        refine TF_y rfl rfl (Y_load_agg rfl rfl) ?_
        refine TF_y rfl rfl (Y_field_addr rfl) ?_
        refine TF_y rfl rfl (Y_load_agg rfl rfl) ?_
        refine TF_y rfl rfl (Y_ne_bal rfl rfl) ?_
        refine TF_name 89 (v' := .bool (decide (s.prom ≠ m.bal))) rfl (by by_cases h : s.prom = m.bal <;> simp [h]) ?_
        refine TF_y rfl rfl (Y_assign rfl) ?_
        refine TF_nil ?_
        refine T_seq ?_
        refine T_region ?_
        refine TL_y rfl rfl (Y_move rfl) ?_
        refine TL_nil ?_
        refine T_cond_false rfl ?_
        refine T_skip ?_
        refine thenS_normal ?_
        refine T_seq ?_
        refine T_region ?_
        refine TL_y rfl rfl (Y_move rfl) ?_
        refine TL_y rfl rfl (Y_not_d rfl) ?_
        refine TL_nil ?_
        refine T_if rfl (fun h148 => ?_) (fun h148 => ?_)
        · refine T_region_last ?_
          refine TL_y rfl rfl (Y_assign rfl) ?_
          refine TL_nil ?_
          refine thenS_normal ?_
          refine T_region ?_
          refine TL_y rfl rfl (Y_move rfl) ?_
          refine TL_name 149 (v' := .slice none ([] : List Int).length 0) rfl (rfl) ?_
          refine TL_y rfl rfl (Y_bytes_strN (A := none) (c := 0) (xs := []) rfl .nil) ?_
          refine TL_y rfl rfl (Y_build rfl rfl) ?_
          refine TL_store rfl rfl rfl rfl rfl rfl ?_
          refine TL_nil ?_
          refine T_ret ?_
          have hch : ¬ chgA s m := by unfold chgA; rintro (h | h); exact h148 h; omega
          have hj : judgeV s m = .agg #[.string (strOfNums []), .bool true, .bool false] := by unfold judgeV recA; rw [if_neg (fun h => hch h.2.2), decide_eq_true hm, decide_eq_false (fun h => hn h.2)]; rfl
          rw [hj]
          refine RetQ.gives (ac_close b s hi) ?_
          exact RetG_1 (.inl rfl) rfl (ResV.agg rfl rfl) GivesTo.g (⟨rfl, rfl⟩)
        · refine T_skip ?_
          refine thenS_normal ?_
          refine T_region ?_
          refine TL_y rfl rfl (Y_move rfl) ?_
          refine TL_y rfl rfl (Y_bytes_strN rfl sln) ?_
          refine TL_y rfl rfl (Y_build rfl rfl) ?_
          refine TL_store rfl rfl rfl rfl rfl rfl ?_
          refine TL_nil ?_
          refine T_ret ?_
          have hch : chgA s m := .inl (Classical.not_not.1 h148)
          have hj : judgeV s m = .agg #[.string (strOfNums (outB (wMsg m ([], false)))), .bool true, .bool false] := by unfold judgeV recA; rw [if_pos ⟨hm, hn, hch⟩, decide_eq_true hm, decide_eq_false (fun h => hn h.2)]
          rw [hj]
          refine RetQ.gives (ac_close b s hi) ?_
          exact RetG_1 (.inl rfl) rfl (ResV.agg rfl rfl) GivesTo.g (⟨rfl, rfl⟩)
end Go.SL
