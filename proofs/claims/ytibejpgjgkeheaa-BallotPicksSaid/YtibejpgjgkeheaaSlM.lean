/- The rules of the logic: maps of ours. Nothing in this text is about one program. -/
import Derived.Test.YtibejpgjgkeheaaSlK
import Derived.Maps.RangeRun
import Derived.Maps.Keyed
set_option linter.unusedVariables false
set_option linter.unusedSimpArgs false
set_option linter.unusedSectionVars false
namespace Go.SL
open Go Go.MapKept Go.WideShapes
open Go.ChangeMaps (setBlock)

/-! ### Keys -/
structure KeyT (κ : Type) where
  enc : κ → Value
  ok : κ → Prop
  inj : ∀ a b, enc a = enc b → a = b
def intK : KeyT Int := ⟨fun x => .int .i64 x, intIn .i64, fun a b h => by injection h⟩
def strK : KeyT ByteArray := ⟨fun s => .string s, fun s => s.size ≤ maxEl, fun a b h => by injection h⟩
class KeyOk (P : Program) (t : TypeId) {κ : Type} (K : KeyT κ) : Prop where
  law : Maps.Keyed P t
  key : ∀ k, K.ok k → ∃ l, keyOf P t (K.enc k) = some l
theorem wf_of_in {k : IntKind} {n : Int} (h : intIn k n) : (Lit.int k n).wf = true := by
  simp only [Lit.wf, Bool.and_eq_true, decide_eq_true_eq]; exact h
instance {P : Program} {t : TypeId} [ht : TyDesc P t (.int .i64)] : KeyOk P t intK := ⟨Maps.int_keyed ht.under, fun k hk => ⟨_, Maps.keyOf_int_mk ht.under (wf_of_in hk)⟩⟩
instance {P : Program} {t : TypeId} [ht : TyDesc P t .string] : KeyOk P t strK := ⟨Maps.string_keyed ht.under, fun k hk => ⟨_, WideMaps.keyOf_string_mk ht.under (by have : k.size ≤ maxEl := hk; simp only [maxEl] at this; simp only [maxLen]; omega)⟩⟩
def wrapV : Bool → List Value → Value
  | true, cs => .agg cs.toArray
  | false, [v] => v
  | false, _ => undef
/-- Whose values are known by what they say. -/
class RepV {α : Type} (R : Rep α) (f : outParam (α → Value)) : Prop where
  e : ∀ M x cs, R.rep M x cs → wrapV false cs = f x
instance {k : IntKind} : RepV (intR k) (fun x => .int k x) := ⟨fun M x cs h => by rw [h.1]; rfl⟩
instance : RepV boolR (fun x => .bool x) := ⟨fun M x cs h => by rw [h]; rfl⟩
instance : RepV strR (fun x => .string x) := ⟨fun M x cs h => by rw [h.1]; rfl⟩
/-- A pointer to the front of a block. -/
def ptrR : Rep Nat := ⟨1, fun _ b cs => cs = [.pointer (some ⟨b, 0, none⟩)], fun _ h => h, fun h => by simp [h], fun h v hv => by rw [h] at hv; simp at hv; subst hv; rfl⟩
instance : RepV ptrR (fun b => .pointer (some ⟨b, 0, none⟩)) := ⟨fun M x cs h => by rw [h]; rfl⟩

/-! ### Lists of pairs -/
section pairs
variable {κ α : Type} [DecidableEq κ]
def getM (m : List (κ × α)) (k : κ) : Option α := (m.find? fun p => decide (p.1 = k)).map (·.2)
def delM (m : List (κ × α)) (k : κ) : List (κ × α) := m.filter fun p => !decide (p.1 = k)
def ND (m : List (κ × α)) : Prop := m.Pairwise fun p q => p.1 ≠ q.1
theorem getM_mem {m : List (κ × α)} {k : κ} {u : α} (h : getM m k = some u) : (k, u) ∈ m := by
  unfold getM at h
  cases e : m.find? fun p => decide (p.1 = k) with
  | none => rw [e] at h; cases h
  | some p =>
    rw [e] at h
    simp only [Option.map_some, Option.some.injEq] at h
    have h1 := List.mem_of_find?_eq_some e
    have h2 := List.find?_some e
    have h3 : p.1 = k := by simpa using h2
    obtain ⟨a, b⟩ := p
    simp only at h h3
    subst h; subst h3; exact h1
theorem getM_none {m : List (κ × α)} {k : κ} : getM m k = none ↔ ∀ p ∈ m, p.1 ≠ k := by
  unfold getM
  rw [Option.map_eq_none_iff, List.find?_eq_none]
  exact ⟨fun h p hp e => h p hp (by simpa using e), fun h p hp e => h p hp (by simpa using e)⟩
theorem nd_unique : ∀ {m : List (κ × α)} {k : κ} {u v : α}, ND m → (k, u) ∈ m → (k, v) ∈ m → u = v
  | [], _, _, _, _, h, _ => by cases h
  | p :: m, k, u, v, hn, h1, h2 => by
    obtain ⟨a, b⟩ := List.pairwise_cons.1 hn
    rcases List.mem_cons.1 h1 with h1 | h1 <;> rcases List.mem_cons.1 h2 with h2 | h2
    · rw [← h1] at h2; exact (congrArg Prod.snd h2).symm
    · exact absurd (by rw [← h1]) (a _ h2)
    · exact absurd (by rw [← h2]) (a _ h1)
    · exact nd_unique b h1 h2
theorem getM_of_mem {m : List (κ × α)} (hn : ND m) {k : κ} {u : α} (h : (k, u) ∈ m) : getM m k = some u := by
  cases e : getM m k with
  | none => exact absurd rfl (getM_none.1 e _ h)
  | some v => rw [nd_unique hn (getM_mem e) h]
theorem getM_iff {m : List (κ × α)} (hn : ND m) {k : κ} {u : α} : getM m k = some u ↔ (k, u) ∈ m := ⟨getM_mem, getM_of_mem hn⟩
theorem nd_perm {m m' : List (κ × α)} (h : m.Perm m') (hn : ND m) : ND m' := (h.pairwise_iff (fun {_ _} hne => Ne.symm hne)).1 hn
theorem getM_perm {m m' : List (κ × α)} (h : m.Perm m') (hn : ND m) (k : κ) : getM m k = getM m' k := by
  cases e : getM m' k with
  | none => exact getM_none.2 fun p hp => getM_none.1 e p (h.mem_iff.1 hp)
  | some u => exact getM_of_mem hn (h.mem_iff.2 (getM_mem e))
theorem getM_cons (p : κ × α) (m : List (κ × α)) (k : κ) : getM (p :: m) k = if p.1 = k then some p.2 else getM m k := by
  unfold getM
  rw [List.find?_cons]
  by_cases h : p.1 = k <;> simp [h]
theorem getM_append {m m' : List (κ × α)} (k : κ) : getM (m ++ m') k = (getM m k).or (getM m' k) := by
  unfold getM
  rw [List.find?_append]
  cases m.find? fun p => decide (p.1 = k) <;> simp
theorem nd_del {m : List (κ × α)} (h : ND m) (k : κ) : ND (delM m k) := h.filter _
theorem mem_del {m : List (κ × α)} {k : κ} {p : κ × α} : p ∈ delM m k ↔ p ∈ m ∧ p.1 ≠ k := by simp [delM]
theorem nd_put {m : List (κ × α)} (h : ND m) (k : κ) (u : α) : ND ((k, u) :: delM m k) :=
  List.pairwise_cons.2 ⟨fun q hq => fun e => (mem_del.1 hq).2 e.symm, nd_del h k⟩
theorem getM_del {m : List (κ × α)} (k q : κ) : getM (delM m k) q = if q = k then none else getM m q := by
  unfold delM
  induction m with
  | nil => simp [getM]
  | cons p m ih =>
    by_cases hp : p.1 = k
    · rw [List.filter_cons_of_neg (by simp [hp]), ih, getM_cons]
      by_cases hq : q = k
      · simp [hq]
      · simp [hq, hp, Ne.symm hq]
    · rw [List.filter_cons_of_pos (by simp [hp]), getM_cons, ih, getM_cons]
      by_cases hq : q = k
      · subst hq; simp [hp]
      · simp [hq]
theorem del_none {m : List (κ × α)} {k : κ} (h : getM m k = none) : delM m k = m := List.filter_eq_self.2 fun p hp => by simpa using getM_none.1 h p hp
theorem del_len {m : List (κ × α)} {k : κ} (hn : ND m) {u : α} (h : getM m k = some u) : (delM m k).length + 1 = m.length := by
  induction m with
  | nil => simp [getM] at h
  | cons p m ih =>
    obtain ⟨a, b⟩ := List.pairwise_cons.1 hn
    rw [getM_cons] at h
    unfold delM at ih ⊢
    by_cases hp : p.1 = k
    · have : getM m k = none := getM_none.2 fun q hq e => a q hq (by rw [hp, e])
      have h2 := del_none this
      unfold delM at h2
      rw [List.filter_cons_of_neg (by simp [hp]), h2]; simp
    · rw [if_neg hp] at h
      rw [List.filter_cons_of_pos (by simp [hp])]
      simp only [List.length_cons]
      rw [ih b h]
end pairs

/-! ### Entries -/
section
variable {κ α : Type} {K : KeyT κ} {R : Rep α} {ag : Bool}
def EntIs (K : KeyT κ) (R : Rep α) (ag : Bool) (M : Mem) (e : MapEntry) (p : κ × α) : Prop := e.key = K.enc p.1 ∧ K.ok p.1 ∧ ∃ cs, R.rep M p.2 cs ∧ e.val = wrapV ag cs
def Ents (K : KeyT κ) (R : Rep α) (ag : Bool) (M : Mem) (es : List MapEntry) (l : List (κ × α)) : Prop :=
  es.length = l.length ∧ ∀ (i : Nat) (e : MapEntry) (p : κ × α), es[i]? = some e → l[i]? = some p → EntIs K R ag M e p
theorem Ents.mono {M N : Mem} (hM : M.le N) {es : List MapEntry} {l : List (κ × α)} (h : Ents K R ag M es l) : Ents K R ag N es l :=
  ⟨h.1, fun i e p he hp => let ⟨a, b, cs, c, d⟩ := h.2 i e p he hp; ⟨a, b, cs, R.mono hM c, d⟩⟩
theorem Ents.at_ {M : Mem} {es : List MapEntry} {l : List (κ × α)} (h : Ents K R ag M es l) {i : Nat} {e : MapEntry} (he : es[i]? = some e) : ∃ p, l[i]? = some p ∧ EntIs K R ag M e p := by
  have hi := (List.getElem?_eq_some_iff.1 he).1
  obtain ⟨p, hp⟩ : ∃ p, l[i]? = some p := ⟨_, List.getElem?_eq_getElem (by rw [← h.1]; exact hi)⟩
  exact ⟨p, hp, h.2 i e p he hp⟩
theorem Ents.mem {M : Mem} {es : List MapEntry} {l : List (κ × α)} (h : Ents K R ag M es l) {e : MapEntry} (he : e ∈ es) : ∃ p ∈ l, EntIs K R ag M e p := by
  obtain ⟨i, hi⟩ := List.getElem?_of_mem he
  obtain ⟨p, hp, hr⟩ := h.at_ hi
  exact ⟨p, List.mem_of_getElem? hp, hr⟩
theorem Ents.mem' {M : Mem} {es : List MapEntry} {l : List (κ × α)} (h : Ents K R ag M es l) {p : κ × α} (hp : p ∈ l) : ∃ e ∈ es, EntIs K R ag M e p := by
  obtain ⟨i, hi⟩ := List.getElem?_of_mem hp
  have hil := (List.getElem?_eq_some_iff.1 hi).1
  obtain ⟨e, he⟩ : ∃ e, es[i]? = some e := ⟨_, List.getElem?_eq_getElem (by rw [h.1]; exact hil)⟩
  exact ⟨e, List.mem_of_getElem? he, h.2 i e p he hi⟩
theorem Ents.nd [DecidableEq κ] {M : Mem} {es : List MapEntry} {l : List (κ × α)} (h : Ents K R ag M es l) (hs : es.Pairwise fun x y => x.key ≠ y.key) : ND l := by
  rw [ND, List.pairwise_iff_getElem]
  intro i j hi hj hij e
  rw [List.pairwise_iff_getElem] at hs
  have hi' : i < es.length := by rw [h.1]; exact hi
  have hj' : j < es.length := by rw [h.1]; exact hj
  have h1 := h.2 i _ _ (List.getElem?_eq_getElem hi') (List.getElem?_eq_getElem hi)
  have h2 := h.2 j _ _ (List.getElem?_eq_getElem hj') (List.getElem?_eq_getElem hj)
  exact hs i j hi' hj' hij (by rw [h1.1, h2.1, e])
theorem Ents.push {M : Mem} {es : List MapEntry} {l : List (κ × α)} (h : Ents K R ag M es l) {e : MapEntry} {p : κ × α} (hp : EntIs K R ag M e p) : Ents K R ag M (es ++ [e]) (l ++ [p]) := by
  refine ⟨by simp [h.1], fun i e' p' he hp' => ?_⟩
  by_cases hi : i < es.length
  · rw [List.getElem?_append_left hi] at he
    rw [List.getElem?_append_left (by rw [← h.1]; exact hi)] at hp'
    exact h.2 i e' p' he hp'
  · rw [List.getElem?_append_right (by omega)] at he
    rw [List.getElem?_append_right (by have := h.1; omega)] at hp'
    have hz : i - es.length = 0 := by
      have := (List.getElem?_eq_some_iff.1 he).1
      simp at this; omega
    have hz2 : i - l.length = 0 := by have := h.1; omega
    rw [hz] at he; rw [hz2] at hp'
    simp at he hp'
    subst he; subst hp'; exact hp
theorem Ents.set {M : Mem} {es : List MapEntry} {l : List (κ × α)} (h : Ents K R ag M es l) {e : MapEntry} {p : κ × α} (j : Nat) (hp : EntIs K R ag M e p) : Ents K R ag M (es.set j e) (l.set j p) := by
  refine ⟨by simp [h.1], fun i e' p' he hp' => ?_⟩
  rw [List.getElem?_set] at he hp'
  by_cases hij : j = i
  · subst hij
    simp only [if_true] at he hp'
    split at he
    · cases he
      split at hp'
      · cases hp'; exact hp
      · cases hp'
    · cases he
  · rw [if_neg hij] at he hp'
    exact h.2 i e' p' he hp'
theorem Ents.erase {M : Mem} {es : List MapEntry} {l : List (κ × α)} (h : Ents K R ag M es l) (j : Nat) : Ents K R ag M (es.eraseIdx j) (l.eraseIdx j) := by
  refine ⟨by simp only [List.length_eraseIdx, h.1], fun i e' p' he hp' => ?_⟩
  rw [List.getElem?_eraseIdx] at he hp'
  by_cases hij : i < j
  · rw [if_pos hij] at he hp'; exact h.2 i e' p' he hp'
  · rw [if_neg hij] at he hp'; exact h.2 _ e' p' he hp'

/-! ### Maps of ours -/
def mapAt (K : KeyT κ) (R : Rep α) (ag : Bool) (M h : Mem) (b : Nat) (m : List (κ × α)) : Prop :=
  ∃ es clock l, h b = some (.map es clock) ∧ Stamped es clock ∧ l.Perm m ∧ Ents K R ag M es.toList l
def omap (K : KeyT κ) (R : Rep α) (ag : Bool) (b : Nat) (m : List (κ × α)) : HP :=
  ⟨fun M h => mapAt K R ag M h b m, fun hM hh ⟨es, c, l, h1, h2, h3, h4⟩ => ⟨es, c, l, hh _ _ h1, h2, h3, h4.mono hM⟩⟩
class FindM (L : List HP) (b : Nat) (κ : outParam Type) (α : outParam Type) (K : outParam (KeyT κ)) (R : outParam (Rep α)) (ag : outParam Bool) (m : outParam (List (κ × α))) (L' : outParam (List HP)) : Prop where
  g : Gives L (omap K R ag b m :: L')
instance findM_tail {p : HP} {L L' : List HP} {b : Nat} {κ α : Type} {K : KeyT κ} {R : Rep α} {ag : Bool} {m : List (κ × α)} [h : FindM L b κ α K R ag m L'] : FindM (p :: L) b κ α K R ag m (p :: L') := ⟨(Gives.cons p h.g).trans (Gives.swap p _ _)⟩
instance findM_head {L : List HP} {b : Nat} {κ α : Type} {K : KeyT κ} {R : Rep α} {ag : Bool} {m : List (κ × α)} : FindM (omap K R ag b m :: L) b κ α K R ag m L := ⟨Gives.refl _⟩
end
section
variable {r : Option Nat} {n : Nat} {P : Program} {ops : Array Oper} {rest : List Oper} {KK : St → Prop} {Q : Exit → St → Prop} {D : List Deferred} {E : Env} {L L' L0 : List HP} {d : Nat} {ty : TypeId} {pos : String} {af : Array Edge}
variable {κ α : Type} [DecidableEq κ] {K : KeyT κ} {R : Rep α} {ag : Bool} {b : Nat} {m : List (κ × α)}
theorem omap_nd : Knows (omap K R ag b m :: L) (fun _ => ND m) := fun M h ⟨h1, h2, hd, l1, l2, ⟨es, c, l, q1, q2, q3, q4⟩, hs⟩ => nd_perm q3 (q4.nd ((stamped_iff es c).1 q2).2.2)
theorem TL_nd [hf : FindM L b κ α K R ag m L0] (h : ND m → TL r n P ops rest ⟨D, E, L⟩ KK) : TL r n P ops rest ⟨D, E, L⟩ KK := TL_fact (φ := fun _ => ND m) (Knows.of_gives hf.g omap_nd) (fun _ h => h) h
theorem T_nd {c : Code} [hf : FindM L b κ α K R ag m L0] (h : ND m → T r n P c ⟨D, E, L⟩ Q) : T r n P c ⟨D, E, L⟩ Q := T_fact (φ := fun _ => ND m) (Knows.of_gives hf.g omap_nd) (fun _ h => h) h
omit [DecidableEq κ] in
theorem omap_perm {m' : List (κ × α)} (h : m.Perm m') : Gives (omap K R ag b m :: L) (omap K R ag b m' :: L) := fun M k ⟨h1, h2, hd, l1, l2, ⟨es, c, l, q1, q2, q3, q4⟩, hs⟩ => ⟨h1, h2, hd, l1, l2, ⟨es, c, l, q1, q2, q3.trans h, q4⟩, hs⟩
theorem TL_mperm (b : Nat) {κ α : Type} {K : KeyT κ} {R : Rep α} {ag : Bool} {m m' : List (κ × α)} {L0 : List HP} [hf : FindM L b κ α K R ag m L0] (hp : m.Perm m') (h : TL r n P ops rest ⟨D, E, omap K R ag b m' :: L0⟩ KK) : TL r n P ops rest ⟨D, E, L⟩ KK := TL_gives (hf.g.trans (omap_perm hp)) h
theorem T_mperm {c : Code} (b : Nat) {κ α : Type} {K : KeyT κ} {R : Rep α} {ag : Bool} {m m' : List (κ × α)} {L0 : List HP} [hf : FindM L b κ α K R ag m L0] (hp : m.Perm m') (h : T r n P c ⟨D, E, omap K R ag b m' :: L0⟩ Q) : T r n P c ⟨D, E, L⟩ Q := T_gives (hf.g.trans (omap_perm hp)) h
theorem TL_pullm (b : Nat) {κ α : Type} {K : KeyT κ} {R : Rep α} {ag : Bool} {m : List (κ × α)} {L0 : List HP} [hf : FindM L b κ α K R ag m L0] (h : TL r n P ops rest ⟨D, E, omap K R ag b m :: L0⟩ KK) : TL r n P ops rest ⟨D, E, L⟩ KK := TL_gives hf.g h
theorem T_pullm {c : Code} (b : Nat) {κ α : Type} {K : KeyT κ} {R : Rep α} {ag : Bool} {m : List (κ × α)} {L0 : List HP} [hf : FindM L b κ α K R ag m L0] (h : T r n P c ⟨D, E, omap K R ag b m :: L0⟩ Q) : T r n P c ⟨D, E, L⟩ Q := T_gives hf.g h
/-- A new map. -/
theorem TL_makeMap {t kt et : TypeId} (K : KeyT κ) (R : Rep α) (ag : Bool) [ht : TyDesc P t (.map kt et)] (hd : Nat.blt d n = true) (h : ∀ b, TL r n P ops rest ⟨D, (d, .map (some b)) :: E, omap K R ag b [] :: L⟩ KK) :
    TL r n P ops (⟨some d, .makeMap t none, ty, pos, af, none⟩ :: rest) ⟨D, E, L⟩ KK :=
  TL_val rfl hd rfl (fun _ e => by cases e) fun W a w hh => ⟨_, w.alloc (.map #[] 0), omap K R ag w.heap.size [] :: L, by simp only [execOp, Instr.makeMap]; rfl,
    (hh.2.alloc _).gives fun M k ⟨h1, h2, hd, l1, l2, hp, hs⟩ => ⟨h1, h2, hd, l1, l2, ⟨#[], 0, [], hp, stamped_empty 0, List.Perm.refl _, ⟨rfl, fun i e p he => by simp at he⟩⟩, hs⟩, h _⟩
/-- What is found at a key. -/
theorem find_run {kt : TypeId} [hk : KeyOk P kt K] {k : κ} (hok : K.ok k) {M : Mem} {es : Array MapEntry} {clock : Nat} {l : List (κ × α)} (hst : Stamped es clock) (hp : l.Perm m) (he : Ents K R ag M es.toList l) (w : World) :
    (getM m k = none ∧ (Instr.findKey kt (K.enc k) es.toList).run P w = .ok none w ∧ ∀ e ∈ es.toList, e.key ≠ K.enc k) ∨
    ∃ j e u cs, getM m k = some u ∧ (Instr.findKey kt (K.enc k) es.toList).run P w = .ok (some (j, e.val)) w ∧ es.toList[j]? = some e ∧ e.key = K.enc k ∧ l[j]? = some (k, u) ∧ R.rep M u cs ∧ e.val = wrapV ag cs := by
  obtain ⟨lx, hlx⟩ := hk.key k hok
  have hnd := nd_perm hp (he.nd ((stamped_iff es clock).1 hst).2.2)
  rcases hk.law.find w hlx es.toList (fun e hem => by obtain ⟨p, _, h1, h2, _⟩ := he.mem hem; rw [h1]; exact hk.key _ h2) with ⟨h1, h2⟩ | ⟨j, e, h1, h2, h3⟩
  · refine .inl ⟨getM_none.2 fun p hpm e => ?_, h1, h2⟩
    obtain ⟨e', hem, q1, _⟩ := he.mem' (hp.mem_iff.2 hpm)
    exact h2 e' hem (by rw [q1, e])
  · obtain ⟨p, hpl, q1, q2, cs, q3, q4⟩ := he.at_ h2
    have hpk : p.1 = k := K.inj _ _ (by rw [← q1, h3])
    obtain ⟨pk, pu⟩ := p
    simp only at hpk; subst hpk
    exact .inr ⟨j, e, pu, cs, getM_of_mem hnd (hp.mem_iff.1 (List.mem_of_getElem? hpl)), h1, h2, h3, hpl, q3, q4⟩
theorem check_run {kt : TypeId} [hk : KeyOk P kt K] {k : κ} (hok : K.ok k) (em : Bool) (w : World) : (Instr.checkKey em 10000 kt (K.enc k)).run P w = .ok () w := by
  obtain ⟨lx, hlx⟩ := hk.key k hok
  exact hk.law.check w em hlx
theorem look_run {t kt et : TypeId} {z : Value} [ht : TyDesc P t (.map kt et)] [hk : KeyOk P kt K] [hz : TyZero P et z] {k : κ} (hok : K.ok k) (c : Bool) {W w : World} (hs : Sat W w (omap K R ag b m :: L)) :
    (getM m k = none ∧ (Instr.lookup t (.map (some b)) (K.enc k) c).run P w = .ok (if c then .tuple #[z, .bool false] else z) w) ∨
    ∃ u cs, getM m k = some u ∧ Sat W w (is R u cs :: omap K R ag b m :: L) ∧ (Instr.lookup t (.map (some b)) (K.enc k) c).run P w = .ok (if c then .tuple #[wrapV ag cs, .bool true] else wrapV ag cs) w := by
  obtain ⟨M, q, hd, hM, hq, h1, h2, hd', l1, l2, ⟨es, clock, l, hb, hst, hp, he⟩, hsep⟩ := hs.ex
  have hbw : w.heap[b]? = some (.map es clock) := hq _ _ (l1 _ _ hb)
  have hc := check_run (P := P) (kt := kt) hok es.isEmpty w
  rcases find_run (P := P) (kt := kt) hok hst hp he w with ⟨g1, g2, g3⟩ | ⟨j, e, u, cs, g1, g2, g3, g4, g5, g6, g7⟩
  · exact .inl ⟨g1, by cases c <;> simp [Instr.lookup, ht.run, MapKept.run_getObj_map hbw, hc, g2, hz.run, Result.andThen]⟩
  · refine .inr ⟨u, cs, g1, ⟨⟨M, q, hd, hM, hq, Mem.emp, q, Mem.emp_disj _, Mem.emp_le _, Mem.le_refl _, g6, h1, h2, hd', l1, l2, ⟨es, clock, l, hb, hst, hp, he⟩, hsep⟩, hs.os, hs.tape, hs.output, hs.size⟩, ?_⟩
    rw [← g7]
    cases c <;> simp [Instr.lookup, ht.run, MapKept.run_getObj_map hbw, hc, g2, hz.run, Result.andThen]
theorem TL_lookup {x y : Operand} {t kt et : TypeId} {z : Value} {k : κ} [ht : TyDesc P t (.map kt et)] [hf : FindM L b κ α K R ag m L0] [hk : KeyOk P kt K] [hz : TyZero P et z] (hd : Nat.blt d n = true) (hx : ev E x = some (.map (some b))) (hy : ev E y = some (K.enc k)) (hok : K.ok k)
    (h0 : getM m k = none → TL r n P ops rest ⟨D, (d, z) :: E, L⟩ KK) (h1 : ∀ u cs, getM m k = some u → TL r n P ops rest ⟨D, (d, wrapV ag cs) :: E, is R u cs :: omap K R ag b m :: L0⟩ KK) :
    TL r n P ops (⟨some d, .lookup t x y false, ty, pos, af, none⟩ :: rest) ⟨D, E, L⟩ KK :=
  TL_val rfl hd rfl (fun _ e => by cases e) fun W a w hh => by
    rcases look_run (P := P) (t := t) (kt := kt) (et := et) (z := z) hok false (hh.2.gives hf.g) with ⟨g1, g2⟩ | ⟨u, cs, g1, g2, g3⟩
    · exact ⟨z, w, L, by simp [execOp, hh.1.ev hx, hh.1.ev hy, g2], hh.2, h0 g1⟩
    · exact ⟨wrapV ag cs, w, _, by simp [execOp, hh.1.ev hx, hh.1.ev hy, g3], g2, h1 u cs g1⟩
theorem TL_lookup_ok {x y : Operand} {t kt et : TypeId} {z : Value} {k : κ} [ht : TyDesc P t (.map kt et)] [hf : FindM L b κ α K R ag m L0] [hk : KeyOk P kt K] [hz : TyZero P et z] (hd : Nat.blt d n = true) (hx : ev E x = some (.map (some b))) (hy : ev E y = some (K.enc k)) (hok : K.ok k)
    (h0 : getM m k = none → TL r n P ops rest ⟨D, (d, .tuple #[z, .bool false]) :: E, L⟩ KK) (h1 : ∀ u cs, getM m k = some u → TL r n P ops rest ⟨D, (d, .tuple #[wrapV ag cs, .bool true]) :: E, is R u cs :: omap K R ag b m :: L0⟩ KK) :
    TL r n P ops (⟨some d, .lookup t x y true, ty, pos, af, none⟩ :: rest) ⟨D, E, L⟩ KK :=
  TL_val rfl hd rfl (fun _ e => by cases e) fun W a w hh => by
    rcases look_run (P := P) (t := t) (kt := kt) (et := et) (z := z) hok true (hh.2.gives hf.g) with ⟨g1, g2⟩ | ⟨u, cs, g1, g2, g3⟩
    · exact ⟨.tuple #[z, .bool false], w, L, by simp [execOp, hh.1.ev hx, hh.1.ev hy, g2], hh.2, h0 g1⟩
    · exact ⟨.tuple #[wrapV ag cs, .bool true], w, _, by simp [execOp, hh.1.ev hx, hh.1.ev hy, g3], g2, h1 u cs g1⟩
def lookV (f : α → Value) (z : Value) : Option α → Value
  | none => z
  | some u => f u
/-- Where a value's cells tell it: reading at a key only reckons. -/
theorem Y_lookup {x y : Operand} {t kt et : TypeId} {z : Value} {k : κ} {m : List (κ × α)} {R : Rep α} {f : α → Value} [hv : RepV R f] [ht : TyDesc P t (.map kt et)] [hf : FindM L b κ α K R false m L0] [hk : KeyOk P kt K] [hz : TyZero P et z] (hx : ev E x = some (.map (some b))) (hy : ev E y = some (K.enc k)) (hok : K.ok k) :
    Yl P E L (.lookup t x y false) ty (lookV f z (getM m k)) := fun n D W a w dst pos af g ha hs => by
  rcases look_run (P := P) (t := t) (kt := kt) (et := et) (z := z) hok false (hs.gives hf.g) with ⟨g1, g2⟩ | ⟨u, cs, g1, g2, g3⟩
  · rw [g1]; simp [execOp, ha.ev hx, ha.ev hy, lookV, g2]
  · obtain ⟨M, q, _, _, _, h1, h2, _, _, _, hi, _⟩ := g2.ex
    have e := hv.e _ _ _ hi
    rw [g1]; simp only [lookV, ← e]
    simp [execOp, ha.ev hx, ha.ev hy, g3]
theorem Y_lookup_ok {x y : Operand} {t kt et : TypeId} {z : Value} {k : κ} {m : List (κ × α)} {R : Rep α} {f : α → Value} [hv : RepV R f] [ht : TyDesc P t (.map kt et)] [hf : FindM L b κ α K R false m L0] [hk : KeyOk P kt K] [hz : TyZero P et z] (hx : ev E x = some (.map (some b))) (hy : ev E y = some (K.enc k)) (hok : K.ok k) :
    Yl P E L (.lookup t x y true) ty (.tuple #[lookV f z (getM m k), .bool (getM m k).isSome]) := fun n D W a w dst pos af g ha hs => by
  rcases look_run (P := P) (t := t) (kt := kt) (et := et) (z := z) hok true (hs.gives hf.g) with ⟨g1, g2⟩ | ⟨u, cs, g1, g2, g3⟩
  · rw [g1]; simp [execOp, ha.ev hx, ha.ev hy, lookV, g2]
  · obtain ⟨M, q, _, _, _, h1, h2, _, _, _, hi, _⟩ := g2.ex
    have e := hv.e _ _ _ hi
    rw [g1]; simp only [lookV, ← e]
    simp [execOp, ha.ev hx, ha.ev hy, g3]
/-- Whether a key is there: nothing else is kept of what is found. -/
theorem TL_has {x y : Operand} {t kt et : TypeId} {z : Value} {k : κ} [ht : TyDesc P t (.map kt et)] [hf : FindM L b κ α K R ag m L0] [hk : KeyOk P kt K] [hz : TyZero P et z] (hd : Nat.blt d n = true) (hx : ev E x = some (.map (some b))) (hy : ev E y = some (K.enc k)) (hok : K.ok k)
    (h : ∀ v, TL r n P ops rest ⟨D, (d, .tuple #[v, .bool (getM m k).isSome]) :: E, L⟩ KK) :
    TL r n P ops (⟨some d, .lookup t x y true, ty, pos, af, none⟩ :: rest) ⟨D, E, L⟩ KK :=
  TL_val rfl hd rfl (fun _ e => by cases e) fun W a w hh => by
    rcases look_run (P := P) (t := t) (kt := kt) (et := et) (z := z) hok true (hh.2.gives hf.g) with ⟨g1, g2⟩ | ⟨u, cs, g1, g2, g3⟩
    · exact ⟨.tuple #[z, .bool false], w, L, by simp [execOp, hh.1.ev hx, hh.1.ev hy, g2], hh.2, by have := h z; rw [g1] at this; exact this⟩
    · exact ⟨.tuple #[wrapV ag cs, .bool true], w, L, by simp [execOp, hh.1.ev hx, hh.1.ev hy, g3], hh.2, by have := h (wrapV ag cs); rw [g1] at this; exact this⟩
abbrev entsP (K : KeyT κ) (R : Rep α) (ag : Bool) (es : List MapEntry) (l : List (κ × α)) : HP := pers (fun M => Ents K R ag M es l) (fun hM h => h.mono hM)
theorem omap_open {W w : World} (h : Sat W w (omap K R ag b m :: L)) : ∃ es clock l, Stamped es clock ∧ l.Perm m ∧ Sat W w (own b (.map es clock) :: entsP K R ag es.toList l :: L) := by
  obtain ⟨M, k, hd, hM, hk, h1, h2, hd', l1, l2, ⟨es, c, l, q1, q2, q3, q4⟩, hs⟩ := h.ex
  exact ⟨es, c, l, q2, q3, ⟨M, k, hd, hM, hk, h1, h2, hd', l1, l2, q1, Mem.emp, h2, Mem.emp_disj _, Mem.emp_le _, Mem.le_refl _, q4, hs⟩, h.os, h.tape, h.output, h.size⟩
theorem omap_close {es : Array MapEntry} {clock : Nat} {l : List (κ × α)} (h1 : Stamped es clock) (h2 : l.Perm m) : Gives (own b (.map es clock) :: entsP K R ag es.toList l :: L) (omap K R ag b m :: L) := fun M k ⟨g1, g2, gd, l1, l2, hp, g3, g4, gd', l3, l4, he, hs⟩ =>
  ⟨g1, g4, Mem.disj_le gd (Mem.le_refl _) l4, l1, Mem.le_trans l4 l2, ⟨es, clock, l, hp, h1, h2, he⟩, hs⟩
theorem sat_setBlock {W w : World} {x y : Obj} (h : Sat W w (own b x :: L)) : Sat W (setBlock w b y) (own b y :: L) := by
  have hb := h.own_at
  have hlt : b < w.heap.size := (Array.getElem?_eq_some_iff.1 hb).1
  exact Sat.set h (by simp [setBlock, hlt]) (fun i hi => by simp [setBlock, Array.getElem?_setIfInBounds_ne (Ne.symm hi)]) rfl rfl rfl (by simp [setBlock])
theorem delM_erase : ∀ {l : List (κ × α)} {j : Nat} {k : κ} {u : α}, ND l → l[j]? = some (k, u) → delM l k = l.eraseIdx j
  | [], j, k, u, _, h => by simp at h
  | p :: l, 0, k, u, hn, h => by
    simp at h; subst h
    obtain ⟨a, b⟩ := List.pairwise_cons.1 hn
    have : getM l k = none := getM_none.2 fun q hq e => a q hq e.symm
    have h2 := del_none this
    unfold delM at h2 ⊢
    rw [List.filter_cons_of_neg (by simp), h2]; simp
  | p :: l, j + 1, k, u, hn, h => by
    obtain ⟨a, b⟩ := List.pairwise_cons.1 hn
    have h' : l[j]? = some (k, u) := by simpa using h
    have hp : p.1 ≠ k := a _ (List.mem_of_getElem? h')
    have ih := delM_erase b h'
    unfold delM at ih ⊢
    rw [List.filter_cons_of_pos (by simp [hp]), ih]; simp
theorem set_perm : ∀ {l : List (κ × α)} {j : Nat} {p : κ × α}, j < l.length → (l.set j p).Perm (p :: l.eraseIdx j)
  | [], j, p, h => by simp at h
  | q :: l, 0, p, h => by simp
  | q :: l, j + 1, p, h => by
    simp only [List.set_cons_succ, List.eraseIdx_cons_succ]
    exact ((set_perm (by simpa using h)).cons q).trans (List.Perm.swap _ _ _)
theorem delM_perm {l m : List (κ × α)} (h : l.Perm m) (k : κ) : (delM l k).Perm (delM m k) := h.filter _
theorem upd_run {t kt et : TypeId} [ht : TyDesc P t (.map kt et)] [hk : KeyOk P kt K] {k : κ} (hok : K.ok k) {u : α} {cs : List Value} {m' : List (κ × α)} (hr : Knows L (fun M => R.rep M u cs)) (hm : ((k, u) :: delM m k).Perm m') {W w : World} (hs : Sat W w (omap K R ag b m :: L)) :
    ∃ w', (Instr.mapUpdate t (.map (some b)) (K.enc k) (wrapV ag cs)).run P w = .ok () w' ∧ Sat W w' (omap K R ag b m' :: L) := by
  obtain ⟨es, clock, l, hst, hp, hs1⟩ := omap_open hs
  have hbw : w.heap[b]? = some (.map es clock) := hs1.own_at
  obtain ⟨M, _, he⟩ := hs1.knows (φ := fun M => Ents K R ag M es.toList l) (Knows.tail Knows.head)
  have hnd : ND l := he.nd ((stamped_iff es clock).1 hst).2.2
  obtain ⟨lx, hlx⟩ := hk.key k hok
  have hc := check_run (P := P) (kt := kt) hok false w
  have hstay := hk.law.stays w hlx
  rcases find_run (P := P) (kt := kt) hok hst hp he w with ⟨g1, g2, g3⟩ | ⟨j, e, u0, cs0, g1, g2, g3, g4, g5, g6, g7⟩
  · refine ⟨setBlock w b (.map (es.push ⟨K.enc k, wrapV ag cs, clock⟩) (clock + 1)), ?_, (sat_setBlock hs1).gives (Gives.trans ?_ (omap_close (l := l ++ [(k, u)]) (stamped_push (val := wrapV ag cs) hst g3) ?_))⟩
    · simp [Instr.mapUpdate, ht.run, MapKept.run_getObj_map hbw, hc, g2, MapKept.run_setObj_map _ hbw, Result.andThen, setBlock]
    · intro N q ⟨a1, a2, ad, b1, b2, ho, a3, a4, ad', b3, b4, hen, hsep⟩
      refine ⟨a1, a2, ad, b1, b2, ho, a3, a4, ad', b3, b4, ?_, hsep⟩
      show Ents K R ag N (es.push ⟨K.enc k, wrapV ag cs, clock⟩).toList (l ++ [(k, u)])
      rw [Array.toList_push]
      exact Ents.push hen ⟨rfl, hok, cs, hr N a4 hsep, rfl⟩
    · refine List.Perm.trans ?_ hm
      rw [del_none g1]
      exact (List.perm_append_singleton _ _).trans (hp.cons _)
  · have hj : es[j]? = some e := by simpa using g3
    have hlist : (es.modify j (fun e' => { e' with key := K.enc k, val := wrapV ag cs })).toList = es.toList.set j { e with key := K.enc k, val := wrapV ag cs } := by rw [Array.toList_modify, ChangeMaps.modify_eq_set _ _ _ _ g3]
    refine ⟨setBlock w b (.map (es.modify j (fun e' => { e' with key := K.enc k, val := wrapV ag cs })) clock), ?_, (sat_setBlock hs1).gives (Gives.trans ?_ (omap_close (l := l.set j (k, u)) (stamped_modify hst j (fun e' => { e' with key := K.enc k, val := wrapV ag cs }) (fun _ _ => rfl) (fun e' _ he' => by rw [hj] at he'; cases he'; exact g4.symm)) ?_))⟩
    · simp [Instr.mapUpdate, ht.run, MapKept.run_getObj_map hbw, hc, g2, hj, g4, hstay, MapKept.run_setObj_map _ hbw, Result.andThen, setBlock]
    · intro N q ⟨a1, a2, ad, b1, b2, ho, a3, a4, ad', b3, b4, hen, hsep⟩
      refine ⟨a1, a2, ad, b1, b2, ho, a3, a4, ad', b3, b4, ?_, hsep⟩
      show Ents K R ag N (es.modify j _).toList (l.set j (k, u))
      rw [hlist]
      exact Ents.set hen j ⟨rfl, hok, cs, hr N a4 hsep, rfl⟩
    · refine List.Perm.trans ?_ hm
      refine (set_perm (List.getElem?_eq_some_iff.1 g5).1).trans (List.Perm.cons _ ?_)
      rw [← delM_erase hnd g5]
      exact delM_perm hp k
theorem TL_update {x y z : Operand} {t kt et : TypeId} {k : κ} {u : α} {cs : List Value} (m' : List (κ × α)) [ht : TyDesc P t (.map kt et)] [hf : FindM L b κ α K R ag m L0] [hk : KeyOk P kt K] (hx : ev E x = some (.map (some b))) (hy : ev E y = some (K.enc k)) (hz : ev E z = some (wrapV ag cs)) (hok : K.ok k) (hr : Knows L0 (fun M => R.rep M u cs)) (hm : ((k, u) :: delM m k).Perm m')
    (h : TL r n P ops rest ⟨D, E, omap K R ag b m' :: L0⟩ KK) : TL r n P ops (⟨none, .mapUpdate t x y z, ty, pos, af, none⟩ :: rest) ⟨D, E, L⟩ KK :=
  TL_skip rfl rfl (fun _ e => by cases e) fun W a w hh => by
    obtain ⟨w', hrun, hs⟩ := upd_run (P := P) (t := t) (kt := kt) (et := et) hok hr hm (hh.2.gives hf.g)
    exact ⟨.skip, w', _, by simp [execOp, hh.1.ev hx, hh.1.ev hy, hh.1.ev hz, hrun], .inl rfl, hs, h⟩
theorem del_run {t kt et ty0 : TypeId} [ht : TyDesc P t (.map kt et)] [hk : KeyOk P kt K] {k : κ} (hok : K.ok k) {W w : World} (hs : Sat W w (omap K R ag b m :: L)) (u : TypeId) :
    ∃ w', (Builtin.delete_ #[t, u] ty0 #[.map (some b), K.enc k]).run P w = .ok (.tuple #[]) w' ∧ Sat W w' (omap K R ag b (delM m k) :: L) := by
  obtain ⟨es, clock, l, hst, hp, hs1⟩ := omap_open hs
  have hbw : w.heap[b]? = some (.map es clock) := hs1.own_at
  obtain ⟨M, _, he⟩ := hs1.knows (φ := fun M => Ents K R ag M es.toList l) (Knows.tail Knows.head)
  have hnd : ND l := he.nd ((stamped_iff es clock).1 hst).2.2
  have hc := check_run (P := P) (kt := kt) hok es.isEmpty w
  rcases find_run (P := P) (kt := kt) hok hst hp he w with ⟨g1, g2, g3⟩ | ⟨j, e, u0, cs0, g1, g2, g3, g4, g5, g6, g7⟩
  · refine ⟨setBlock w b (.map es clock), ?_, (sat_setBlock hs1).gives (omap_close hst ?_)⟩
    · simp [Builtin.delete_, ht.run, MapKept.run_getObj_map hbw, hc, g2, MapKept.run_setObj_map _ hbw, Result.andThen, setBlock]
    · rw [del_none g1]; exact hp
  · have hjl : j < es.toList.length := (List.getElem?_eq_some_iff.1 g3).1
    have hjs : j < es.size := by simpa using hjl
    have hsub : (es.eraseIdxIfInBounds j).toList = es.toList.eraseIdx j := by
      unfold Array.eraseIdxIfInBounds
      rw [dif_pos hjs]
      simp
    refine ⟨setBlock w b (.map (es.eraseIdxIfInBounds j) clock), ?_, (sat_setBlock hs1).gives (Gives.trans ?_ (omap_close (l := l.eraseIdx j) (stamped_erase hst j) ?_))⟩
    · simp [Builtin.delete_, ht.run, MapKept.run_getObj_map hbw, hc, g2, MapKept.run_setObj_map _ hbw, Result.andThen, setBlock]
    · intro N q ⟨a1, a2, ad, b1, b2, ho, a3, a4, ad', b3, b4, hen, hsep⟩
      refine ⟨a1, a2, ad, b1, b2, ho, a3, a4, ad', b3, b4, ?_, hsep⟩
      show Ents K R ag N (es.eraseIdxIfInBounds j).toList (l.eraseIdx j)
      rw [hsub]
      exact Ents.erase hen j
    · rw [← delM_erase hnd g5]
      exact delM_perm hp k
theorem TL_delete {x y : Operand} {t kt et u : TypeId} {k : κ} [ht : TyDesc P t (.map kt et)] [hf : FindM L b κ α K R ag m L0] [hk : KeyOk P kt K] (hd : Nat.blt d n = true) (hx : ev E x = some (.map (some b))) (hy : ev E y = some (K.enc k)) (hok : K.ok k)
    (h : TL r n P ops rest ⟨D, (d, .tuple #[]) :: E, omap K R ag b (delM m k) :: L0⟩ KK) : TL r n P ops (⟨some d, .call { callee := .builtin .delete, args := #[x, y], argTypes := #[t, u] }, ty, pos, af, none⟩ :: rest) ⟨D, E, L⟩ KK :=
  TL_val rfl hd rfl (fun _ e => by cases e) fun W a w hh => by
    obtain ⟨w', hrun, hs⟩ := del_run (P := P) (t := t) (kt := kt) (et := et) (ty0 := ty) hok (hh.2.gives hf.g) u
    exact ⟨_, w', _, by simp [execOp, resolve, invoke, builtin, hh.1.ev hx, hh.1.ev hy, hrun], hs, h⟩
theorem TL_delete0 {x y : Operand} {t kt et u : TypeId} {k : κ} [ht : TyDesc P t (.map kt et)] [hf : FindM L b κ α K R ag m L0] [hk : KeyOk P kt K] (hx : ev E x = some (.map (some b))) (hy : ev E y = some (K.enc k)) (hok : K.ok k)
    (h : TL r n P ops rest ⟨D, E, omap K R ag b (delM m k) :: L0⟩ KK) : TL r n P ops (⟨none, .call { callee := .builtin .delete, args := #[x, y], argTypes := #[t, u] }, ty, pos, af, none⟩ :: rest) ⟨D, E, L⟩ KK :=
  TL_skip rfl rfl (fun _ e => by cases e) fun W a w hh => by
    obtain ⟨w', hrun, hs⟩ := del_run (P := P) (t := t) (kt := kt) (et := et) (ty0 := ty) hok (hh.2.gives hf.g) u
    exact ⟨_, w', _, by simp [execOp, resolve, invoke, builtin, hh.1.ev hx, hh.1.ev hy, hrun]; rfl, .inr ⟨_, rfl⟩, hs, h⟩
theorem Y_len_map {x : Operand} {t kt et : TypeId} [ht : TyDesc P t (.map kt et)] [hf : FindM L b κ α K R ag m L0] (hx : ev E x = some (.map (some b))) : Yl P E L (.call { callee := .builtin .len, args := #[x], argTypes := #[t] }) ty (.int .i64 (m.length : Int)) := fun n D W a w dst pos af g ha hs => by
  obtain ⟨es, clock, l, hst, hp, hs1⟩ := omap_open (hs.gives hf.g)
  have hbw : w.heap[b]? = some (.map es clock) := hs1.own_at
  obtain ⟨M, _, he⟩ := hs1.knows (φ := fun M => Ents K R ag M es.toList l) (Knows.tail Knows.head)
  have : es.size = m.length := by have := he.1; rw [← hp.length_eq, ← this]; simp
  simp [execOp, resolve, invoke, builtin, Builtin.len_, ha.ev hx, ht.run, MapKept.run_getObj_map hbw, Result.andThen, goInt, this]
theorem EqIs.map_nil {t : TypeId} {kt et : TypeId} [ht : TyDesc P t (.map kt et)] {A : Option Nat} : EqIs P t (.map A) (.map none) (decide (A = none)) := fun d w => by
  cases A <;> simp [Op.equalIn, ht.run]

/-! ### Ranging over a map -/
theorem nodup_len : ∀ {n : Nat} {l : List Nat}, l.Nodup → (∀ x ∈ l, x < n) → l.length ≤ n
  | 0, l, _, h => by
    cases l with
    | nil => simp
    | cons x l => have := h x (by simp); omega
  | n + 1, l, hn, h => by
    by_cases hm : n ∈ l
    · have h1 : (l.erase n).length = l.length - 1 := List.length_erase_of_mem hm
      have h2 := nodup_len (n := n) (hn.erase n) (fun x hx => by
        have h3 := (hn.mem_erase_iff).1 hx
        have h4 := h x h3.2
        have h5 := h3.1
        omega)
      have h0 : 0 < l.length := List.length_pos_of_mem hm
      omega
    · have h2 := nodup_len (n := n) hn (fun x hx => by
        have h4 := h x hx
        have h5 : x ≠ n := fun e => hm (e ▸ hx)
        omega)
      omega
/-- The map b and an iterator over it; of m these came. -/
def mrangeAt (K : KeyT κ) (R : Rep α) (ag : Bool) (M h : Mem) (b it : Nat) (m done : List (κ × α)) : Prop :=
  ∃ (es : Array MapEntry) (clock : Nat) (l : List (κ × α)) (seen : Array Nat) (js : List Nat), h b = some (.map es clock) ∧ h it = some (.mapIter (some b) clock seen clock) ∧ it ≠ b ∧ Stamped es clock ∧ l.Perm m ∧ Ents K R ag M es.toList l ∧
    js.Nodup ∧ (∀ j ∈ js, j < l.length) ∧ seen.toList.map some = js.map (fun j => (es.toList[j]?).map (·.born)) ∧ done.map some = js.map (fun j => l[j]?)
def mrange (K : KeyT κ) (R : Rep α) (ag : Bool) (b it : Nat) (m done : List (κ × α)) : HP :=
  ⟨fun M h => mrangeAt K R ag M h b it m done, fun hM hh ⟨es, c, l, seen, js, h1, h2, h3, h4, h5, h6, h7⟩ => ⟨es, c, l, seen, js, hh _ _ h1, hh _ _ h2, h3, h4, h5, h6.mono hM, h7⟩⟩
class FindG (L : List HP) (it : Nat) (b : outParam Nat) (κ : outParam Type) (α : outParam Type) (K : outParam (KeyT κ)) (R : outParam (Rep α)) (ag : outParam Bool) (m : outParam (List (κ × α))) (done : outParam (List (κ × α))) (L' : outParam (List HP)) : Prop where
  g : Gives L (mrange K R ag b it m done :: L')
omit [DecidableEq κ] in
theorem findG_t {p : HP} {L L' : List HP} {b it : Nat} {κ α : Type} {K : KeyT κ} {R : Rep α} {ag : Bool} {m done : List (κ × α)} (h : FindG L it b κ α K R ag m done L') : FindG (p :: L) it b κ α K R ag m done (p :: L') := ⟨(Gives.cons p h.g).trans (Gives.swap p _ _)⟩
instance findG_tail {p : HP} {L L' : List HP} {b it : Nat} {κ α : Type} {K : KeyT κ} {R : Rep α} {ag : Bool} {m done : List (κ × α)} [h : FindG L it b κ α K R ag m done L'] : FindG (p :: L) it b κ α K R ag m done (p :: L') := findG_t h
instance findG_head {L : List HP} {b it : Nat} {κ α : Type} {K : KeyT κ} {R : Rep α} {ag : Bool} {m done : List (κ × α)} : FindG (mrange K R ag b it m done :: L) it b κ α K R ag m done L := ⟨Gives.refl _⟩
theorem TL_range {x : Operand} {t kt et : TypeId} [ht : TyDesc P t (.map kt et)] [hf : FindM L b κ α K R ag m L0] (hd : Nat.blt d n = true) (hx : ev E x = some (.map (some b))) (h : ∀ it, TL r n P ops rest ⟨D, (d, .pointer (some ⟨it, 0, none⟩)) :: E, mrange K R ag b it m [] :: L0⟩ KK) :
    TL r n P ops (⟨some d, .range t x, ty, pos, af, none⟩ :: rest) ⟨D, E, L⟩ KK :=
  TL_val rfl hd rfl (fun _ e => by cases e) fun W a w hh => by
    obtain ⟨es, clock, l, hst, hp, hs1⟩ := omap_open (hh.2.gives hf.g)
    have hbw : w.heap[b]? = some (.map es clock) := hs1.own_at
    have hrun := run_range_map (P := P) w t kt et b es clock ht.under hbw
    refine ⟨_, _, mrange K R ag b w.heap.size m [] :: L0, by simp [execOp, hh.1.ev hx, hrun], (hs1.alloc (.mapIter (some b) clock #[] clock)).gives fun M q ⟨a1, a2, ad, b1, b2, ho, a3, a4, ad', b3, b4, hb, a5, a6, ad2, b5, b6, he, hsep⟩ => ?_, h _⟩
    have hne : w.heap.size ≠ b := by have := (Array.getElem?_eq_some_iff.1 hbw).1; omega
    refine ⟨a1.join a3, a6, Mem.join_disj (Mem.disj_le ad (Mem.le_refl _) (Mem.le_trans b6 b4)) (Mem.disj_le ad' (Mem.le_refl _) b6), Mem.join_le b1 (Mem.le_trans b3 b2), Mem.le_trans b6 (Mem.le_trans b4 b2), ⟨es, clock, l, #[], [], ?_, ?_, hne, hst, hp, he, List.nodup_nil, fun j hj => by simp at hj, rfl, rfl⟩, hsep⟩
    · exact Mem.le_join_right (Mem.disj_le ad (Mem.le_refl _) b3) _ _ hb
    · exact Mem.le_join_left _ _ _ _ ho
/-- The step: all came; or another one comes. -/
theorem TL_next {x : Operand} {it : Nat} {done : List (κ × α)} [hf : FindG L it b κ α K R ag m done L0] (hd : Nat.blt d n = true) (hx : ev E x = some (.pointer (some ⟨it, 0, none⟩)))
    (h0 : done.Perm m → TL r n P ops rest ⟨D, (d, .tuple #[.bool false]) :: E, L⟩ KK)
    (h1 : ∀ p cs, p ∈ m → (∀ q ∈ done, q.1 ≠ p.1) → done.length < m.length → TL r n P ops rest ⟨D, (d, .tuple #[.bool true, K.enc p.1, wrapV ag cs]) :: E, mrange K R ag b it m (done ++ [p]) :: L0⟩ KK) :
    TL r n P ops (⟨some d, .next x false, ty, pos, af, none⟩ :: rest) ⟨D, E, L⟩ KK :=
  TL_val rfl hd rfl (fun _ e => by cases e) fun W a w hh => by
    obtain ⟨M, q, hd', hM, hq, a1, a2, ad, l1, l2, ⟨es, clock, l, seen, js, hb, hit, hne, hst, hp, he, hnj, hlj, hseen, hdone⟩, hsep⟩ := (hh.2.gives hf.g).ex
    have hbw : w.heap[b]? = some (.map es clock) := hq _ _ (l1 _ _ hb)
    have hiw : w.heap[it]? = some (.mapIter (some b) clock seen clock) := hq _ _ (l1 _ _ hit)
    have hst' := (stamped_iff es clock).1 hst
    have hnd : ND l := he.nd hst'.2.2
    -- an entry's number is among those that came just where its stamp is
    have hin : ∀ (j : Nat) (e : MapEntry), es.toList[j]? = some e → (seen.contains e.born = true ↔ j ∈ js) := fun j e hj => by
      rw [Array.contains_iff_mem, ← Array.mem_toList_iff]
      constructor
      · intro hmem
        have : some e.born ∈ seen.toList.map some := List.mem_map.2 ⟨_, hmem, rfl⟩
        rw [hseen] at this
        obtain ⟨j', hj', e2⟩ := List.mem_map.1 this
        have hj'l : j' < es.toList.length := by rw [he.1]; exact hlj j' hj'
        rw [List.getElem?_eq_getElem hj'l] at e2
        simp only [Option.map_some, Option.some.injEq] at e2
        have hnb := hst'.2.1
        rw [List.Nodup, List.pairwise_iff_getElem] at hnb
        have hjl := (List.getElem?_eq_some_iff.1 hj).1
        have hjj : j' = j := by
          refine Classical.byContradiction fun hne' => ?_
          rcases Nat.lt_or_gt_of_ne hne' with hlt | hlt
          · exact hnb j' j (by simpa using hj'l) (by simpa using hjl) hlt (by rw [List.getElem_map, List.getElem_map, e2, ← (List.getElem?_eq_some_iff.1 hj).2])
          · exact hnb j j' (by simpa using hjl) (by simpa using hj'l) hlt (by rw [List.getElem_map, List.getElem_map, e2, ← (List.getElem?_eq_some_iff.1 hj).2])
        rw [← hjj]; exact hj'
      · intro hj'
        have : (es.toList[j]?).map (·.born) ∈ js.map (fun j => (es.toList[j]?).map (·.born)) := List.mem_map.2 ⟨j, hj', rfl⟩
        rw [← hseen, hj] at this
        obtain ⟨x, hx, e2⟩ := List.mem_map.1 this
        simp only [Option.map_some, Option.some.injEq] at e2
        rw [← e2]; exact hx
    rcases run_next_at (P := P) w ty it b clock clock seen es clock hiw hbw hst.1 (Nat.le_refl _) with ⟨g0, grun⟩ | ⟨e, hel, w1, hal, grun⟩
    · refine ⟨.tuple #[.bool false], w, L, by simp [execOp, hh.1.ev hx, grun], hh.2, h0 ?_⟩
      have hall := all_seen es seen g0
      have hperm : js.Perm (List.range l.length) := (List.perm_ext_iff_of_nodup hnj List.nodup_range).2 fun j => ⟨fun hj => List.mem_range.2 (hlj j hj), fun hj => by
        have hjl : j < es.toList.length := by rw [he.1]; exact List.mem_range.1 hj
        exact (hin j _ (List.getElem?_eq_getElem hjl)).1 (hall _ (List.getElem_mem hjl))⟩
      have h2 := hperm.map (fun j => l[j]?)
      have h3 : (List.range l.length).map (fun j => l[j]?) = l.map some := by
        apply List.ext_getElem?
        intro i
        by_cases hi : i < l.length
        · simp [hi]
        · simp [hi]
      rw [h3, ← hdone] at h2
      have h4 := h2.filterMap id
      simp only [List.filterMap_map, Function.comp_def, id, List.filterMap_some] at h4
      exact h4.trans hp
    · obtain ⟨hem, hes⟩ := mem_left hel
      obtain ⟨j, hj⟩ := List.getElem?_of_mem hem
      obtain ⟨p, hpl, hrel⟩ := he.at_ hj
      have hjn : j ∉ js := fun h => by rw [(hin j e hj).2 h] at hes; cases hes
      obtain ⟨r1, r2, cs, r3, r4⟩ := hrel
      have hpd : ∀ q ∈ done, q.1 ≠ p.1 := fun q h => by
        have : some q ∈ done.map some := List.mem_map.2 ⟨_, h, rfl⟩
        rw [hdone] at this
        obtain ⟨j', hj', e2⟩ := List.mem_map.1 this
        have hjj : j' ≠ j := fun e => hjn (e ▸ hj')
        have hnd' := hnd
        rw [ND, List.pairwise_iff_getElem] at hnd'
        have u1 := List.getElem?_eq_some_iff.1 hpl
        have u2 := List.getElem?_eq_some_iff.1 e2
        rcases Nat.lt_or_gt_of_ne hjj with hlt | hlt
        · have := hnd' j' j u2.1 u1.1 hlt
          rw [u2.2, u1.2] at this; exact this
        · have := hnd' j j' u1.1 u2.1 hlt
          rw [u2.2, u1.2] at this; exact Ne.symm this
      refine ⟨.tuple #[.bool true, K.enc p.1, wrapV ag cs], setBlock w1 it (.mapIter (some b) clock (seen.push e.born) clock), mrange K R ag b it m (done ++ [p]) :: L0, by simp [execOp, hh.1.ev hx, grun, r1, r4], ?_, h1 p cs (hp.mem_iff.1 (List.mem_of_getElem? hpl)) hpd (by
        have e1 : done.length = js.length := by have := congrArg List.length hdone; simpa using this
        have := nodup_len (l := j :: js) (n := l.length) (List.nodup_cons.2 ⟨hjn, hnj⟩) (fun x hx => by rcases List.mem_cons.1 hx with rfl | hx; exact (List.getElem?_eq_some_iff.1 hpl).1; exact hlj x hx)
        rw [e1, ← hp.length_eq]; simp only [List.length_cons] at this; omega)⟩
      have hs1 : Sat W w (own it (.mapIter (some b) clock seen clock) :: own b (.map es clock) :: entsP K R ag es.toList l :: L0) := by
        refine ⟨⟨M, q, hd', hM, hq, Mem.one it (.mapIter (some b) clock seen clock), (Mem.one b (.map es clock)).join a2, ?_, Mem.one_le (l1 _ _ hit), Mem.join_le (Mem.one_le (l1 _ _ hb)) l2, Mem.one_self _ _, Mem.one b (.map es clock), a2, ?_, Mem.le_join_left _ _, Mem.le_join_right ?_, Mem.one_self _ _, Mem.emp, a2, Mem.emp_disj _, Mem.emp_le _, Mem.le_refl _, he, hsep⟩, hh.2.os, hh.2.tape, hh.2.output, hh.2.size⟩
        · intro i
          by_cases hi : i = it
          · right
            subst hi
            have : a2 i = none := by
              rcases ad i with h | h
              · rw [hit] at h; cases h
              · exact h
            simp [Mem.join, Mem.one, hne, this]
          · left; simp [Mem.one, hi]
        all_goals
          intro i
          by_cases hi : i = b
          · right
            subst hi
            rcases ad i with h | h
            · rw [hb] at h; cases h
            · exact h
          · left; simp [Mem.one, hi]
      have hs2 : Sat W w1 (own it (.mapIter (some b) clock seen clock) :: own b (.map es clock) :: entsP K R ag es.toList l :: L0) := by
        rcases hal with rfl | rfl
        · exact hs1
        · exact hs1.drew
      refine (sat_setBlock (y := .mapIter (some b) clock (seen.push e.born) clock) hs2).gives fun N k ⟨c1, c2, cd, m1, m2, hi1, c3, c4, cd', m3, m4, hb1, c5, c6, cd2, m5, m6, hen, hsp⟩ => ?_
      refine ⟨c1.join c3, c6, Mem.join_disj (Mem.disj_le cd (Mem.le_refl _) (Mem.le_trans m6 m4)) (Mem.disj_le cd' (Mem.le_refl _) m6), Mem.join_le m1 (Mem.le_trans m3 m2), Mem.le_trans m6 (Mem.le_trans m4 m2), ⟨es, clock, l, seen.push e.born, js ++ [j], Mem.le_join_right (Mem.disj_le cd (Mem.le_refl _) m3) _ _ hb1, Mem.le_join_left _ _ _ _ hi1, hne, hst, hp, hen, ?_, ?_, ?_, ?_⟩, hsp⟩
      · rw [List.nodup_append]
        exact ⟨hnj, by simp, fun x hx y hy => by simp at hy; subst hy; exact fun e => hjn (e ▸ hx)⟩
      · intro x hx
        rcases List.mem_append.1 hx with hx | hx
        · exact hlj x hx
        · simp at hx; subst hx; exact (List.getElem?_eq_some_iff.1 hpl).1
      · rw [Array.toList_push, List.map_append, List.map_append, hseen, List.map_singleton, List.map_singleton, hj]; rfl
      · rw [List.map_append, List.map_append, hdone]
        simp [hpl]
/-- What the step handed out, read again. -/
theorem TL_entry {x : Operand} {it : Nat} {done : List (κ × α)} {p : κ × α} [hf : FindG L it b κ α K R ag m (done ++ [p]) L0] (hd : Nat.blt d n = true) (hx : ev E x = some (.pointer (some ⟨it, 0, none⟩)))
    (h : ∀ cs, K.ok p.1 → TL r n P ops rest ⟨D, (d, .tuple #[K.enc p.1, wrapV ag cs]) :: E, is R p.2 cs :: mrange K R ag b it m (done ++ [p]) :: L0⟩ KK) :
    TL r n P ops (⟨some d, .entry x, ty, pos, af, none⟩ :: rest) ⟨D, E, L⟩ KK :=
  TL_val rfl hd rfl (fun _ e => by cases e) fun W a w hh => by
    have hs := hh.2.gives hf.g
    obtain ⟨M, q, hd', hM, hq, a1, a2, ad, l1, l2, hm, hsep⟩ := hs.ex
    have hm' := hm
    obtain ⟨es, clock, l, seen, js, hb, hit, hne, hst, hp, he, hnj, hlj, hseen, hdone⟩ := hm'
    have hbw : w.heap[b]? = some (.map es clock) := hq _ _ (l1 _ _ hb)
    have hiw : w.heap[it]? = some (.mapIter (some b) clock seen clock) := hq _ _ (l1 _ _ hit)
    have hst' := (stamped_iff es clock).1 hst
    rcases List.eq_nil_or_concat js with rfl | ⟨js', j, rfl⟩
    · simp at hdone
    · have hlen : done.length = js'.length := by have := congrArg List.length hdone; simp at this; exact this
      rw [List.concat_eq_append] at hseen hdone hlj
      have hpl : l[j]? = some p := by
        have h1 := congrArg List.getLast? hdone
        simpa using h1.symm
      obtain ⟨e, hje⟩ : ∃ e, es.toList[j]? = some e := ⟨_, List.getElem?_eq_getElem (by rw [he.1]; exact hlj j (by simp))⟩
      have hback : ∃ s0 : Array Nat, seen = s0.push e.born := by
        have h1 := congrArg List.getLast? hseen
        simp only [List.map_append, List.map_cons, List.map_nil, List.getLast?_append, List.getLast?_singleton, Option.some_or, hje, Option.map_some] at h1
        rcases List.eq_nil_or_concat seen.toList with h | ⟨t, y, h⟩
        · rw [h] at h1; simp at h1
        · rw [h] at h1
          simp at h1
          exact ⟨t.toArray, by rw [← Array.toArray_toList (xs := seen), h, ← h1]; simp⟩
      obtain ⟨s0, rfl⟩ := hback
      have hrun := run_entry_at (P := P) w it b clock s0 es clock e hiw hbw (List.mem_of_getElem? hje) hst'.2.1
      obtain ⟨r1, r2, cs, r3, r4⟩ := he.2 j e p hje hpl
      exact ⟨.tuple #[K.enc p.1, wrapV ag cs], w, is R p.2 cs :: mrange K R ag b it m (done ++ [p]) :: L0, by simp [execOp, hh.1.ev hx, hrun, r1, r4],
        ⟨⟨M, q, hd', hM, hq, Mem.emp, q, Mem.emp_disj _, Mem.emp_le _, Mem.le_refl _, r3, a1, a2, ad, l1, l2, hm, hsep⟩, hs.os, hs.tape, hs.output, hs.size⟩, h cs r2⟩
theorem TL_entry_v {x : Operand} {it : Nat} {R : Rep α} {m done : List (κ × α)} {p : κ × α} {f : α → Value} [hv : RepV R f] [hf : FindG L it b κ α K R false m (done ++ [p]) L0] (hd : Nat.blt d n = true) (hx : ev E x = some (.pointer (some ⟨it, 0, none⟩)))
    (h : K.ok p.1 → (∃ M cs, R.rep M p.2 cs) → TL r n P ops rest ⟨D, (d, .tuple #[K.enc p.1, f p.2]) :: E, mrange K R false b it m (done ++ [p]) :: L0⟩ KK) :
    TL r n P ops (⟨some d, .entry x, ty, pos, af, none⟩ :: rest) ⟨D, E, L⟩ KK := TL_entry hd hx fun cs hok W a w hh => by
  obtain ⟨M, k, _, _, _, h1, h2, _, _, _, hi, _⟩ := hh.2.ex
  have e := hv.e _ _ _ hi
  rw [e] at hh
  exact h hok ⟨M, cs, hi⟩ W a w ⟨hh.1, hh.2.gives (Gives.drop _ _)⟩
theorem put_new {done : List (κ × α)} {p : κ × α} (h : ∀ q ∈ done, q.1 ≠ p.1) : ((p.1, p.2) :: delM done p.1).Perm (done ++ [p]) := by
  rw [del_none (getM_none.2 h)]
  exact (List.perm_append_singleton _ _).symm
/-- The range is over: the map is as it was. -/
theorem mrange_end {it : Nat} {done : List (κ × α)} : Gives (mrange K R ag b it m done :: L) (omap K R ag b m :: L) := fun M k ⟨h1, h2, hd, l1, l2, ⟨es, clock, l, seen, js, hb, hit, hne, hst, hp, he, _⟩, hs⟩ => ⟨h1, h2, hd, l1, l2, ⟨es, clock, l, hb, hst, hp, he⟩, hs⟩
theorem TL_endrange (it : Nat) {done : List (κ × α)} [hf : FindG L it b κ α K R ag m done L0] (h : TL r n P ops rest ⟨D, E, omap K R ag b m :: L0⟩ KK) : TL r n P ops rest ⟨D, E, L⟩ KK := TL_gives (hf.g.trans mrange_end) h
theorem T_endrange {c : Code} (it : Nat) {done : List (κ × α)} [hf : FindG L it b κ α K R ag m done L0] (h : T r n P c ⟨D, E, omap K R ag b m :: L0⟩ Q) : T r n P c ⟨D, E, L⟩ Q := T_gives (hf.g.trans mrange_end) h
end
end Go.SL
