/- What the laws of this claim need, together: the logic, data in memory, the walks of functions. -/
import Derived.Test.YtajdgepnmbonaaaCmA
import Derived.Maps.RangeRun
import Derived.Maps.Keyed
import Derived.RangeFuncRecord
import Derived.WideKeyEntry
import Derived.Carry
import Derived.SizedLaws
import Derived.OpenShut
import Derived.ProofKit
import Derived.DeepKeys4
import Derived.Ground.NamesProg
import Derived.Shelf.Lay
import Derived.Shelf.Sort.Plain
import Derived.Shelf.Slices.In.SortNone
import Derived.Sort.Walk0
set_option linter.unusedVariables false
set_option linter.unusedSimpArgs false
set_option linter.unusedVariables false
set_option linter.unusedSimpArgs false
set_option linter.unusedSectionVars false
namespace Go.SL
open Go Go.MapKept Go.WideShapes
open Go.ChangeMaps (setBlock)

/-! ### Keys -/
structure KeyT (κ : Type) where
  enc : κ → Value
  ok : κ → Prop
  inj : ∀ a b, enc a = enc b → a = b
def intK : KeyT Int := ⟨fun x => .int .i64 x, intIn .i64, fun a b h => by injection h⟩
def strK : KeyT ByteArray := ⟨fun s => .string s, fun s => s.size ≤ maxEl, fun a b h => by injection h⟩
class KeyOk (P : Program) (t : TypeId) {κ : Type} (K : KeyT κ) : Prop where
  law : Maps.Keyed P t
  key : ∀ k, K.ok k → ∃ l, keyOf P t (K.enc k) = some l
theorem wf_of_in {k : IntKind} {n : Int} (h : intIn k n) : (Lit.int k n).wf = true := by
  simp only [Lit.wf, Bool.and_eq_true, decide_eq_true_eq]; exact h
instance {P : Program} {t : TypeId} [ht : TyDesc P t (.int .i64)] : KeyOk P t intK := ⟨Maps.int_keyed ht.under, fun k hk => ⟨_, Maps.keyOf_int_mk ht.under (wf_of_in hk)⟩⟩
instance {P : Program} {t : TypeId} [ht : TyDesc P t .string] : KeyOk P t strK := ⟨Maps.string_keyed ht.under, fun k hk => ⟨_, WideMaps.keyOf_string_mk ht.under (by have : k.size ≤ maxEl := hk; simp only [maxEl] at this; simp only [maxLen]; omega)⟩⟩
def wrapV : Bool → List Value → Value
  | true, cs => .agg cs.toArray
  | false, [v] => v
  | false, _ => undef
/-- Whose values are known by what they say. -/
class RepV {α : Type} (R : Rep α) (f : outParam (α → Value)) : Prop where
  e : ∀ M x cs, R.rep M x cs → wrapV false cs = f x
instance {k : IntKind} : RepV (intR k) (fun x => .int k x) := ⟨fun M x cs h => by rw [h.1]; rfl⟩
instance : RepV boolR (fun x => .bool x) := ⟨fun M x cs h => by rw [h]; rfl⟩
instance : RepV strR (fun x => .string x) := ⟨fun M x cs h => by rw [h.1]; rfl⟩
/-- A pointer to the front of a block. -/
def ptrR : Rep Nat := ⟨1, fun _ b cs => cs = [.pointer (some ⟨b, 0, none⟩)], fun _ h => h, fun h => by simp [h], fun h v hv => by rw [h] at hv; simp at hv; subst hv; rfl⟩
instance : RepV ptrR (fun b => .pointer (some ⟨b, 0, none⟩)) := ⟨fun M x cs h => by rw [h]; rfl⟩

/-! ### Lists of pairs -/
section pairs
variable {κ α : Type} [DecidableEq κ]
def getM (m : List (κ × α)) (k : κ) : Option α := (m.find? fun p => decide (p.1 = k)).map (·.2)
def delM (m : List (κ × α)) (k : κ) : List (κ × α) := m.filter fun p => !decide (p.1 = k)
def ND (m : List (κ × α)) : Prop := m.Pairwise fun p q => p.1 ≠ q.1
theorem getM_mem {m : List (κ × α)} {k : κ} {u : α} (h : getM m k = some u) : (k, u) ∈ m := by
  unfold getM at h
  cases e : m.find? fun p => decide (p.1 = k) with
  | none => rw [e] at h; cases h
  | some p =>
    rw [e] at h
    simp only [Option.map_some, Option.some.injEq] at h
    have h1 := List.mem_of_find?_eq_some e
    have h2 := List.find?_some e
    have h3 : p.1 = k := by simpa using h2
    obtain ⟨a, b⟩ := p
    simp only at h h3
    subst h; subst h3; exact h1
theorem getM_none {m : List (κ × α)} {k : κ} : getM m k = none ↔ ∀ p ∈ m, p.1 ≠ k := by
  unfold getM
  rw [Option.map_eq_none_iff, List.find?_eq_none]
  exact ⟨fun h p hp e => h p hp (by simpa using e), fun h p hp e => h p hp (by simpa using e)⟩
theorem nd_unique : ∀ {m : List (κ × α)} {k : κ} {u v : α}, ND m → (k, u) ∈ m → (k, v) ∈ m → u = v
  | [], _, _, _, _, h, _ => by cases h
  | p :: m, k, u, v, hn, h1, h2 => by
    obtain ⟨a, b⟩ := List.pairwise_cons.1 hn
    rcases List.mem_cons.1 h1 with h1 | h1 <;> rcases List.mem_cons.1 h2 with h2 | h2
    · rw [← h1] at h2; exact (congrArg Prod.snd h2).symm
    · exact absurd (by rw [← h1]) (a _ h2)
    · exact absurd (by rw [← h2]) (a _ h1)
    · exact nd_unique b h1 h2
theorem getM_of_mem {m : List (κ × α)} (hn : ND m) {k : κ} {u : α} (h : (k, u) ∈ m) : getM m k = some u := by
  cases e : getM m k with
  | none => exact absurd rfl (getM_none.1 e _ h)
  | some v => rw [nd_unique hn (getM_mem e) h]
theorem nd_perm {m m' : List (κ × α)} (h : m.Perm m') (hn : ND m) : ND m' := (h.pairwise_iff (fun {_ _} hne => Ne.symm hne)).1 hn
theorem getM_perm {m m' : List (κ × α)} (h : m.Perm m') (hn : ND m) (k : κ) : getM m k = getM m' k := by
  cases e : getM m' k with
  | none => exact getM_none.2 fun p hp => getM_none.1 e p (h.mem_iff.1 hp)
  | some u => exact getM_of_mem hn (h.mem_iff.2 (getM_mem e))
theorem getM_cons (p : κ × α) (m : List (κ × α)) (k : κ) : getM (p :: m) k = if p.1 = k then some p.2 else getM m k := by
  unfold getM
  rw [List.find?_cons]
  by_cases h : p.1 = k <;> simp [h]
theorem nd_del {m : List (κ × α)} (h : ND m) (k : κ) : ND (delM m k) := h.filter _
theorem mem_del {m : List (κ × α)} {k : κ} {p : κ × α} : p ∈ delM m k ↔ p ∈ m ∧ p.1 ≠ k := by simp [delM]
theorem nd_put {m : List (κ × α)} (h : ND m) (k : κ) (u : α) : ND ((k, u) :: delM m k) :=
  List.pairwise_cons.2 ⟨fun q hq => fun e => (mem_del.1 hq).2 e.symm, nd_del h k⟩
theorem getM_del {m : List (κ × α)} (k q : κ) : getM (delM m k) q = if q = k then none else getM m q := by
  unfold delM
  induction m with
  | nil => simp [getM]
  | cons p m ih =>
    by_cases hp : p.1 = k
    · rw [List.filter_cons_of_neg (by simp [hp]), ih, getM_cons]
      by_cases hq : q = k
      · simp [hq]
      · simp [hq, hp, Ne.symm hq]
    · rw [List.filter_cons_of_pos (by simp [hp]), getM_cons, ih, getM_cons]
      by_cases hq : q = k
      · subst hq; simp [hp]
      · simp [hq]
theorem del_none {m : List (κ × α)} {k : κ} (h : getM m k = none) : delM m k = m := List.filter_eq_self.2 fun p hp => by simpa using getM_none.1 h p hp
end pairs

/-! ### Entries -/
section
variable {κ α : Type} {K : KeyT κ} {R : Rep α} {ag : Bool}
def EntIs (K : KeyT κ) (R : Rep α) (ag : Bool) (M : Mem) (e : MapEntry) (p : κ × α) : Prop := e.key = K.enc p.1 ∧ K.ok p.1 ∧ ∃ cs, R.rep M p.2 cs ∧ e.val = wrapV ag cs
def Ents (K : KeyT κ) (R : Rep α) (ag : Bool) (M : Mem) (es : List MapEntry) (l : List (κ × α)) : Prop :=
  es.length = l.length ∧ ∀ (i : Nat) (e : MapEntry) (p : κ × α), es[i]? = some e → l[i]? = some p → EntIs K R ag M e p
theorem Ents.mono {M N : Mem} (hM : M.le N) {es : List MapEntry} {l : List (κ × α)} (h : Ents K R ag M es l) : Ents K R ag N es l :=
  ⟨h.1, fun i e p he hp => let ⟨a, b, cs, c, d⟩ := h.2 i e p he hp; ⟨a, b, cs, R.mono hM c, d⟩⟩
theorem Ents.at_ {M : Mem} {es : List MapEntry} {l : List (κ × α)} (h : Ents K R ag M es l) {i : Nat} {e : MapEntry} (he : es[i]? = some e) : ∃ p, l[i]? = some p ∧ EntIs K R ag M e p := by
  have hi := (List.getElem?_eq_some_iff.1 he).1
  obtain ⟨p, hp⟩ : ∃ p, l[i]? = some p := ⟨_, List.getElem?_eq_getElem (by rw [← h.1]; exact hi)⟩
  exact ⟨p, hp, h.2 i e p he hp⟩
theorem Ents.mem {M : Mem} {es : List MapEntry} {l : List (κ × α)} (h : Ents K R ag M es l) {e : MapEntry} (he : e ∈ es) : ∃ p ∈ l, EntIs K R ag M e p := by
  obtain ⟨i, hi⟩ := List.getElem?_of_mem he
  obtain ⟨p, hp, hr⟩ := h.at_ hi
  exact ⟨p, List.mem_of_getElem? hp, hr⟩
theorem Ents.mem' {M : Mem} {es : List MapEntry} {l : List (κ × α)} (h : Ents K R ag M es l) {p : κ × α} (hp : p ∈ l) : ∃ e ∈ es, EntIs K R ag M e p := by
  obtain ⟨i, hi⟩ := List.getElem?_of_mem hp
  have hil := (List.getElem?_eq_some_iff.1 hi).1
  obtain ⟨e, he⟩ : ∃ e, es[i]? = some e := ⟨_, List.getElem?_eq_getElem (by rw [h.1]; exact hil)⟩
  exact ⟨e, List.mem_of_getElem? he, h.2 i e p he hi⟩
theorem Ents.nd [DecidableEq κ] {M : Mem} {es : List MapEntry} {l : List (κ × α)} (h : Ents K R ag M es l) (hs : es.Pairwise fun x y => x.key ≠ y.key) : ND l := by
  rw [ND, List.pairwise_iff_getElem]
  intro i j hi hj hij e
  rw [List.pairwise_iff_getElem] at hs
  have hi' : i < es.length := by rw [h.1]; exact hi
  have hj' : j < es.length := by rw [h.1]; exact hj
  have h1 := h.2 i _ _ (List.getElem?_eq_getElem hi') (List.getElem?_eq_getElem hi)
  have h2 := h.2 j _ _ (List.getElem?_eq_getElem hj') (List.getElem?_eq_getElem hj)
  exact hs i j hi' hj' hij (by rw [h1.1, h2.1, e])
theorem Ents.push {M : Mem} {es : List MapEntry} {l : List (κ × α)} (h : Ents K R ag M es l) {e : MapEntry} {p : κ × α} (hp : EntIs K R ag M e p) : Ents K R ag M (es ++ [e]) (l ++ [p]) := by
  refine ⟨by simp [h.1], fun i e' p' he hp' => ?_⟩
  by_cases hi : i < es.length
  · rw [List.getElem?_append_left hi] at he
    rw [List.getElem?_append_left (by rw [← h.1]; exact hi)] at hp'
    exact h.2 i e' p' he hp'
  · rw [List.getElem?_append_right (by omega)] at he
    rw [List.getElem?_append_right (by have := h.1; omega)] at hp'
    have hz : i - es.length = 0 := by
      have := (List.getElem?_eq_some_iff.1 he).1
      simp at this; omega
    have hz2 : i - l.length = 0 := by have := h.1; omega
    rw [hz] at he; rw [hz2] at hp'
    simp at he hp'
    subst he; subst hp'; exact hp
theorem Ents.set {M : Mem} {es : List MapEntry} {l : List (κ × α)} (h : Ents K R ag M es l) {e : MapEntry} {p : κ × α} (j : Nat) (hp : EntIs K R ag M e p) : Ents K R ag M (es.set j e) (l.set j p) := by
  refine ⟨by simp [h.1], fun i e' p' he hp' => ?_⟩
  rw [List.getElem?_set] at he hp'
  by_cases hij : j = i
  · subst hij
    simp only [if_true] at he hp'
    split at he
    · cases he
      split at hp'
      · cases hp'; exact hp
      · cases hp'
    · cases he
  · rw [if_neg hij] at he hp'
    exact h.2 i e' p' he hp'
theorem Ents.erase {M : Mem} {es : List MapEntry} {l : List (κ × α)} (h : Ents K R ag M es l) (j : Nat) : Ents K R ag M (es.eraseIdx j) (l.eraseIdx j) := by
  refine ⟨by simp only [List.length_eraseIdx, h.1], fun i e' p' he hp' => ?_⟩
  rw [List.getElem?_eraseIdx] at he hp'
  by_cases hij : i < j
  · rw [if_pos hij] at he hp'; exact h.2 i e' p' he hp'
  · rw [if_neg hij] at he hp'; exact h.2 _ e' p' he hp'

/-! ### Maps of ours -/
def mapAt (K : KeyT κ) (R : Rep α) (ag : Bool) (M h : Mem) (b : Nat) (m : List (κ × α)) : Prop :=
  ∃ es clock l, h b = some (.map es clock) ∧ Stamped es clock ∧ l.Perm m ∧ Ents K R ag M es.toList l
def omap (K : KeyT κ) (R : Rep α) (ag : Bool) (b : Nat) (m : List (κ × α)) : HP :=
  ⟨fun M h => mapAt K R ag M h b m, fun hM hh ⟨es, c, l, h1, h2, h3, h4⟩ => ⟨es, c, l, hh _ _ h1, h2, h3, h4.mono hM⟩⟩
class FindM (L : List HP) (b : Nat) (κ : outParam Type) (α : outParam Type) (K : outParam (KeyT κ)) (R : outParam (Rep α)) (ag : outParam Bool) (m : outParam (List (κ × α))) (L' : outParam (List HP)) : Prop where
  g : Gives L (omap K R ag b m :: L')
instance findM_tail {p : HP} {L L' : List HP} {b : Nat} {κ α : Type} {K : KeyT κ} {R : Rep α} {ag : Bool} {m : List (κ × α)} [h : FindM L b κ α K R ag m L'] : FindM (p :: L) b κ α K R ag m (p :: L') := ⟨(Gives.cons p h.g).trans (Gives.swap p _ _)⟩
instance findM_head {L : List HP} {b : Nat} {κ α : Type} {K : KeyT κ} {R : Rep α} {ag : Bool} {m : List (κ × α)} : FindM (omap K R ag b m :: L) b κ α K R ag m L := ⟨Gives.refl _⟩
end
section
variable {r : Option Nat} {n : Nat} {P : Program} {ops : Array Oper} {rest : List Oper} {KK : St → Prop} {Q : Exit → St → Prop} {D : List Deferred} {E : Env} {L L' L0 : List HP} {d : Nat} {ty : TypeId} {pos : String} {af : Array Edge}
variable {κ α : Type} [DecidableEq κ] {K : KeyT κ} {R : Rep α} {ag : Bool} {b : Nat} {m : List (κ × α)}
theorem omap_nd : Knows (omap K R ag b m :: L) (fun _ => ND m) := fun M h ⟨h1, h2, hd, l1, l2, ⟨es, c, l, q1, q2, q3, q4⟩, hs⟩ => nd_perm q3 (q4.nd ((stamped_iff es c).1 q2).2.2)
theorem T_nd {c : Code} [hf : FindM L b κ α K R ag m L0] (h : ND m → T r n P c ⟨D, E, L⟩ Q) : T r n P c ⟨D, E, L⟩ Q := T_fact (φ := fun _ => ND m) (Knows.of_gives hf.g omap_nd) (fun _ h => h) h
/-- A new map. -/
theorem TL_makeMap {t kt et : TypeId} (K : KeyT κ) (R : Rep α) (ag : Bool) [ht : TyDesc P t (.map kt et)] (hd : Nat.blt d n = true) (h : ∀ b, TL r n P ops rest ⟨D, (d, .map (some b)) :: E, omap K R ag b [] :: L⟩ KK) :
    TL r n P ops (⟨some d, .makeMap t none, ty, pos, af, none⟩ :: rest) ⟨D, E, L⟩ KK :=
  TL_val rfl hd rfl (fun _ e => by cases e) fun W a w hh => ⟨_, w.alloc (.map #[] 0), omap K R ag w.heap.size [] :: L, by simp only [execOp, Instr.makeMap]; rfl,
    (hh.2.alloc _).gives fun M k ⟨h1, h2, hd, l1, l2, hp, hs⟩ => ⟨h1, h2, hd, l1, l2, ⟨#[], 0, [], hp, stamped_empty 0, List.Perm.refl _, ⟨rfl, fun i e p he => by simp at he⟩⟩, hs⟩, h _⟩
/-- What is found at a key. -/
theorem find_run {kt : TypeId} [hk : KeyOk P kt K] {k : κ} (hok : K.ok k) {M : Mem} {es : Array MapEntry} {clock : Nat} {l : List (κ × α)} (hst : Stamped es clock) (hp : l.Perm m) (he : Ents K R ag M es.toList l) (w : World) :
    (getM m k = none ∧ (Instr.findKey kt (K.enc k) es.toList).run P w = .ok none w ∧ ∀ e ∈ es.toList, e.key ≠ K.enc k) ∨
    ∃ j e u cs, getM m k = some u ∧ (Instr.findKey kt (K.enc k) es.toList).run P w = .ok (some (j, e.val)) w ∧ es.toList[j]? = some e ∧ e.key = K.enc k ∧ l[j]? = some (k, u) ∧ R.rep M u cs ∧ e.val = wrapV ag cs := by
  obtain ⟨lx, hlx⟩ := hk.key k hok
  have hnd := nd_perm hp (he.nd ((stamped_iff es clock).1 hst).2.2)
  rcases hk.law.find w hlx es.toList (fun e hem => by obtain ⟨p, _, h1, h2, _⟩ := he.mem hem; rw [h1]; exact hk.key _ h2) with ⟨h1, h2⟩ | ⟨j, e, h1, h2, h3⟩
  · refine .inl ⟨getM_none.2 fun p hpm e => ?_, h1, h2⟩
    obtain ⟨e', hem, q1, _⟩ := he.mem' (hp.mem_iff.2 hpm)
    exact h2 e' hem (by rw [q1, e])
  · obtain ⟨p, hpl, q1, q2, cs, q3, q4⟩ := he.at_ h2
    have hpk : p.1 = k := K.inj _ _ (by rw [← q1, h3])
    obtain ⟨pk, pu⟩ := p
    simp only at hpk; subst hpk
    exact .inr ⟨j, e, pu, cs, getM_of_mem hnd (hp.mem_iff.1 (List.mem_of_getElem? hpl)), h1, h2, h3, hpl, q3, q4⟩
theorem check_run {kt : TypeId} [hk : KeyOk P kt K] {k : κ} (hok : K.ok k) (em : Bool) (w : World) : (Instr.checkKey em 10000 kt (K.enc k)).run P w = .ok () w := by
  obtain ⟨lx, hlx⟩ := hk.key k hok
  exact hk.law.check w em hlx
theorem look_run {t kt et : TypeId} {z : Value} [ht : TyDesc P t (.map kt et)] [hk : KeyOk P kt K] [hz : TyZero P et z] {k : κ} (hok : K.ok k) (c : Bool) {W w : World} (hs : Sat W w (omap K R ag b m :: L)) :
    (getM m k = none ∧ (Instr.lookup t (.map (some b)) (K.enc k) c).run P w = .ok (if c then .tuple #[z, .bool false] else z) w) ∨
    ∃ u cs, getM m k = some u ∧ Sat W w (is R u cs :: omap K R ag b m :: L) ∧ (Instr.lookup t (.map (some b)) (K.enc k) c).run P w = .ok (if c then .tuple #[wrapV ag cs, .bool true] else wrapV ag cs) w := by
  obtain ⟨M, q, hd, hM, hq, h1, h2, hd', l1, l2, ⟨es, clock, l, hb, hst, hp, he⟩, hsep⟩ := hs.ex
  have hbw : w.heap[b]? = some (.map es clock) := hq _ _ (l1 _ _ hb)
  have hc := check_run (P := P) (kt := kt) hok es.isEmpty w
  rcases find_run (P := P) (kt := kt) hok hst hp he w with ⟨g1, g2, g3⟩ | ⟨j, e, u, cs, g1, g2, g3, g4, g5, g6, g7⟩
  · exact .inl ⟨g1, by cases c <;> simp [Instr.lookup, ht.run, MapKept.run_getObj_map hbw, hc, g2, hz.run, Result.andThen]⟩
  · refine .inr ⟨u, cs, g1, ⟨⟨M, q, hd, hM, hq, Mem.emp, q, Mem.emp_disj _, Mem.emp_le _, Mem.le_refl _, g6, h1, h2, hd', l1, l2, ⟨es, clock, l, hb, hst, hp, he⟩, hsep⟩, hs.os, hs.tape, hs.output, hs.size⟩, ?_⟩
    rw [← g7]
    cases c <;> simp [Instr.lookup, ht.run, MapKept.run_getObj_map hbw, hc, g2, hz.run, Result.andThen]
theorem TL_lookup {x y : Operand} {t kt et : TypeId} {z : Value} {k : κ} [ht : TyDesc P t (.map kt et)] [hf : FindM L b κ α K R ag m L0] [hk : KeyOk P kt K] [hz : TyZero P et z] (hd : Nat.blt d n = true) (hx : ev E x = some (.map (some b))) (hy : ev E y = some (K.enc k)) (hok : K.ok k)
    (h0 : getM m k = none → TL r n P ops rest ⟨D, (d, z) :: E, L⟩ KK) (h1 : ∀ u cs, getM m k = some u → TL r n P ops rest ⟨D, (d, wrapV ag cs) :: E, is R u cs :: omap K R ag b m :: L0⟩ KK) :
    TL r n P ops (⟨some d, .lookup t x y false, ty, pos, af, none⟩ :: rest) ⟨D, E, L⟩ KK :=
  TL_val rfl hd rfl (fun _ e => by cases e) fun W a w hh => by
    rcases look_run (P := P) (t := t) (kt := kt) (et := et) (z := z) hok false (hh.2.gives hf.g) with ⟨g1, g2⟩ | ⟨u, cs, g1, g2, g3⟩
    · exact ⟨z, w, L, by simp [execOp, hh.1.ev hx, hh.1.ev hy, g2], hh.2, h0 g1⟩
    · exact ⟨wrapV ag cs, w, _, by simp [execOp, hh.1.ev hx, hh.1.ev hy, g3], g2, h1 u cs g1⟩
def lookV (f : α → Value) (z : Value) : Option α → Value
  | none => z
  | some u => f u
/-- Where a value's cells tell it: reading at a key only reckons. -/
theorem Y_lookup {x y : Operand} {t kt et : TypeId} {z : Value} {k : κ} {m : List (κ × α)} {R : Rep α} {f : α → Value} [hv : RepV R f] [ht : TyDesc P t (.map kt et)] [hf : FindM L b κ α K R false m L0] [hk : KeyOk P kt K] [hz : TyZero P et z] (hx : ev E x = some (.map (some b))) (hy : ev E y = some (K.enc k)) (hok : K.ok k) :
    Yl P E L (.lookup t x y false) ty (lookV f z (getM m k)) := fun n D W a w dst pos af g ha hs => by
  rcases look_run (P := P) (t := t) (kt := kt) (et := et) (z := z) hok false (hs.gives hf.g) with ⟨g1, g2⟩ | ⟨u, cs, g1, g2, g3⟩
  · rw [g1]; simp [execOp, ha.ev hx, ha.ev hy, lookV, g2]
  · obtain ⟨M, q, _, _, _, h1, h2, _, _, _, hi, _⟩ := g2.ex
    have e := hv.e _ _ _ hi
    rw [g1]; simp only [lookV, ← e]
    simp [execOp, ha.ev hx, ha.ev hy, g3]
abbrev entsP (K : KeyT κ) (R : Rep α) (ag : Bool) (es : List MapEntry) (l : List (κ × α)) : HP := pers (fun M => Ents K R ag M es l) (fun hM h => h.mono hM)
theorem omap_open {W w : World} (h : Sat W w (omap K R ag b m :: L)) : ∃ es clock l, Stamped es clock ∧ l.Perm m ∧ Sat W w (own b (.map es clock) :: entsP K R ag es.toList l :: L) := by
  obtain ⟨M, k, hd, hM, hk, h1, h2, hd', l1, l2, ⟨es, c, l, q1, q2, q3, q4⟩, hs⟩ := h.ex
  exact ⟨es, c, l, q2, q3, ⟨M, k, hd, hM, hk, h1, h2, hd', l1, l2, q1, Mem.emp, h2, Mem.emp_disj _, Mem.emp_le _, Mem.le_refl _, q4, hs⟩, h.os, h.tape, h.output, h.size⟩
theorem omap_close {es : Array MapEntry} {clock : Nat} {l : List (κ × α)} (h1 : Stamped es clock) (h2 : l.Perm m) : Gives (own b (.map es clock) :: entsP K R ag es.toList l :: L) (omap K R ag b m :: L) := fun M k ⟨g1, g2, gd, l1, l2, hp, g3, g4, gd', l3, l4, he, hs⟩ =>
  ⟨g1, g4, Mem.disj_le gd (Mem.le_refl _) l4, l1, Mem.le_trans l4 l2, ⟨es, clock, l, hp, h1, h2, he⟩, hs⟩
theorem sat_setBlock {W w : World} {x y : Obj} (h : Sat W w (own b x :: L)) : Sat W (setBlock w b y) (own b y :: L) := by
  have hb := h.own_at
  have hlt : b < w.heap.size := (Array.getElem?_eq_some_iff.1 hb).1
  exact Sat.set h (by simp [setBlock, hlt]) (fun i hi => by simp [setBlock, Array.getElem?_setIfInBounds_ne (Ne.symm hi)]) rfl rfl rfl (by simp [setBlock])
theorem delM_erase : ∀ {l : List (κ × α)} {j : Nat} {k : κ} {u : α}, ND l → l[j]? = some (k, u) → delM l k = l.eraseIdx j
  | [], j, k, u, _, h => by simp at h
  | p :: l, 0, k, u, hn, h => by
    simp at h; subst h
    obtain ⟨a, b⟩ := List.pairwise_cons.1 hn
    have : getM l k = none := getM_none.2 fun q hq e => a q hq e.symm
    have h2 := del_none this
    unfold delM at h2 ⊢
    rw [List.filter_cons_of_neg (by simp), h2]; simp
  | p :: l, j + 1, k, u, hn, h => by
    obtain ⟨a, b⟩ := List.pairwise_cons.1 hn
    have h' : l[j]? = some (k, u) := by simpa using h
    have hp : p.1 ≠ k := a _ (List.mem_of_getElem? h')
    have ih := delM_erase b h'
    unfold delM at ih ⊢
    rw [List.filter_cons_of_pos (by simp [hp]), ih]; simp
theorem set_perm : ∀ {l : List (κ × α)} {j : Nat} {p : κ × α}, j < l.length → (l.set j p).Perm (p :: l.eraseIdx j)
  | [], j, p, h => by simp at h
  | q :: l, 0, p, h => by simp
  | q :: l, j + 1, p, h => by
    simp only [List.set_cons_succ, List.eraseIdx_cons_succ]
    exact ((set_perm (by simpa using h)).cons q).trans (List.Perm.swap _ _ _)
theorem delM_perm {l m : List (κ × α)} (h : l.Perm m) (k : κ) : (delM l k).Perm (delM m k) := h.filter _
theorem upd_run {t kt et : TypeId} [ht : TyDesc P t (.map kt et)] [hk : KeyOk P kt K] {k : κ} (hok : K.ok k) {u : α} {cs : List Value} {m' : List (κ × α)} (hr : Knows L (fun M => R.rep M u cs)) (hm : ((k, u) :: delM m k).Perm m') {W w : World} (hs : Sat W w (omap K R ag b m :: L)) :
    ∃ w', (Instr.mapUpdate t (.map (some b)) (K.enc k) (wrapV ag cs)).run P w = .ok () w' ∧ Sat W w' (omap K R ag b m' :: L) := by
  obtain ⟨es, clock, l, hst, hp, hs1⟩ := omap_open hs
  have hbw : w.heap[b]? = some (.map es clock) := hs1.own_at
  obtain ⟨M, _, he⟩ := hs1.knows (φ := fun M => Ents K R ag M es.toList l) (Knows.tail Knows.head)
  have hnd : ND l := he.nd ((stamped_iff es clock).1 hst).2.2
  obtain ⟨lx, hlx⟩ := hk.key k hok
  have hc := check_run (P := P) (kt := kt) hok false w
  have hstay := hk.law.stays w hlx
  rcases find_run (P := P) (kt := kt) hok hst hp he w with ⟨g1, g2, g3⟩ | ⟨j, e, u0, cs0, g1, g2, g3, g4, g5, g6, g7⟩
  · refine ⟨setBlock w b (.map (es.push ⟨K.enc k, wrapV ag cs, clock⟩) (clock + 1)), ?_, (sat_setBlock hs1).gives (Gives.trans ?_ (omap_close (l := l ++ [(k, u)]) (stamped_push (val := wrapV ag cs) hst g3) ?_))⟩
    · simp [Instr.mapUpdate, ht.run, MapKept.run_getObj_map hbw, hc, g2, MapKept.run_setObj_map _ hbw, Result.andThen, setBlock]
    · intro N q ⟨a1, a2, ad, b1, b2, ho, a3, a4, ad', b3, b4, hen, hsep⟩
      refine ⟨a1, a2, ad, b1, b2, ho, a3, a4, ad', b3, b4, ?_, hsep⟩
      show Ents K R ag N (es.push ⟨K.enc k, wrapV ag cs, clock⟩).toList (l ++ [(k, u)])
      rw [Array.toList_push]
      exact Ents.push hen ⟨rfl, hok, cs, hr N a4 hsep, rfl⟩
    · refine List.Perm.trans ?_ hm
      rw [del_none g1]
      exact (List.perm_append_singleton _ _).trans (hp.cons _)
  · have hj : es[j]? = some e := by simpa using g3
    have hlist : (es.modify j (fun e' => { e' with key := K.enc k, val := wrapV ag cs })).toList = es.toList.set j { e with key := K.enc k, val := wrapV ag cs } := by rw [Array.toList_modify, ChangeMaps.modify_eq_set _ _ _ _ g3]
    refine ⟨setBlock w b (.map (es.modify j (fun e' => { e' with key := K.enc k, val := wrapV ag cs })) clock), ?_, (sat_setBlock hs1).gives (Gives.trans ?_ (omap_close (l := l.set j (k, u)) (stamped_modify hst j (fun e' => { e' with key := K.enc k, val := wrapV ag cs }) (fun _ _ => rfl) (fun e' _ he' => by rw [hj] at he'; cases he'; exact g4.symm)) ?_))⟩
    · simp [Instr.mapUpdate, ht.run, MapKept.run_getObj_map hbw, hc, g2, hj, g4, hstay, MapKept.run_setObj_map _ hbw, Result.andThen, setBlock]
    · intro N q ⟨a1, a2, ad, b1, b2, ho, a3, a4, ad', b3, b4, hen, hsep⟩
      refine ⟨a1, a2, ad, b1, b2, ho, a3, a4, ad', b3, b4, ?_, hsep⟩
      show Ents K R ag N (es.modify j _).toList (l.set j (k, u))
      rw [hlist]
      exact Ents.set hen j ⟨rfl, hok, cs, hr N a4 hsep, rfl⟩
    · refine List.Perm.trans ?_ hm
      refine (set_perm (List.getElem?_eq_some_iff.1 g5).1).trans (List.Perm.cons _ ?_)
      rw [← delM_erase hnd g5]
      exact delM_perm hp k
theorem TL_update {x y z : Operand} {t kt et : TypeId} {k : κ} {u : α} {cs : List Value} (m' : List (κ × α)) [ht : TyDesc P t (.map kt et)] [hf : FindM L b κ α K R ag m L0] [hk : KeyOk P kt K] (hx : ev E x = some (.map (some b))) (hy : ev E y = some (K.enc k)) (hz : ev E z = some (wrapV ag cs)) (hok : K.ok k) (hr : Knows L0 (fun M => R.rep M u cs)) (hm : ((k, u) :: delM m k).Perm m')
    (h : TL r n P ops rest ⟨D, E, omap K R ag b m' :: L0⟩ KK) : TL r n P ops (⟨none, .mapUpdate t x y z, ty, pos, af, none⟩ :: rest) ⟨D, E, L⟩ KK :=
  TL_skip rfl rfl (fun _ e => by cases e) fun W a w hh => by
    obtain ⟨w', hrun, hs⟩ := upd_run (P := P) (t := t) (kt := kt) (et := et) hok hr hm (hh.2.gives hf.g)
    exact ⟨.skip, w', _, by simp [execOp, hh.1.ev hx, hh.1.ev hy, hh.1.ev hz, hrun], .inl rfl, hs, h⟩
theorem EqIs.map_nil {t : TypeId} {kt et : TypeId} [ht : TyDesc P t (.map kt et)] {A : Option Nat} : EqIs P t (.map A) (.map none) (decide (A = none)) := fun d w => by
  cases A <;> simp [Op.equalIn, ht.run]

/-! ### Ranging over a map -/
theorem nodup_len : ∀ {n : Nat} {l : List Nat}, l.Nodup → (∀ x ∈ l, x < n) → l.length ≤ n
  | 0, l, _, h => by
    cases l with
    | nil => simp
    | cons x l => have := h x (by simp); omega
  | n + 1, l, hn, h => by
    by_cases hm : n ∈ l
    · have h1 : (l.erase n).length = l.length - 1 := List.length_erase_of_mem hm
      have h2 := nodup_len (n := n) (hn.erase n) (fun x hx => by
        have h3 := (hn.mem_erase_iff).1 hx
        have h4 := h x h3.2
        have h5 := h3.1
        omega)
      have h0 : 0 < l.length := List.length_pos_of_mem hm
      omega
    · have h2 := nodup_len (n := n) hn (fun x hx => by
        have h4 := h x hx
        have h5 : x ≠ n := fun e => hm (e ▸ hx)
        omega)
      omega
/-- The map b and an iterator over it; of m these came. -/
def mrangeAt (K : KeyT κ) (R : Rep α) (ag : Bool) (M h : Mem) (b it : Nat) (m done : List (κ × α)) : Prop :=
  ∃ (es : Array MapEntry) (clock : Nat) (l : List (κ × α)) (seen : Array Nat) (js : List Nat), h b = some (.map es clock) ∧ h it = some (.mapIter (some b) clock seen clock) ∧ it ≠ b ∧ Stamped es clock ∧ l.Perm m ∧ Ents K R ag M es.toList l ∧
    js.Nodup ∧ (∀ j ∈ js, j < l.length) ∧ seen.toList.map some = js.map (fun j => (es.toList[j]?).map (·.born)) ∧ done.map some = js.map (fun j => l[j]?)
def mrange (K : KeyT κ) (R : Rep α) (ag : Bool) (b it : Nat) (m done : List (κ × α)) : HP :=
  ⟨fun M h => mrangeAt K R ag M h b it m done, fun hM hh ⟨es, c, l, seen, js, h1, h2, h3, h4, h5, h6, h7⟩ => ⟨es, c, l, seen, js, hh _ _ h1, hh _ _ h2, h3, h4, h5, h6.mono hM, h7⟩⟩
class FindG (L : List HP) (it : Nat) (b : outParam Nat) (κ : outParam Type) (α : outParam Type) (K : outParam (KeyT κ)) (R : outParam (Rep α)) (ag : outParam Bool) (m : outParam (List (κ × α))) (done : outParam (List (κ × α))) (L' : outParam (List HP)) : Prop where
  g : Gives L (mrange K R ag b it m done :: L')
omit [DecidableEq κ] in
theorem findG_t {p : HP} {L L' : List HP} {b it : Nat} {κ α : Type} {K : KeyT κ} {R : Rep α} {ag : Bool} {m done : List (κ × α)} (h : FindG L it b κ α K R ag m done L') : FindG (p :: L) it b κ α K R ag m done (p :: L') := ⟨(Gives.cons p h.g).trans (Gives.swap p _ _)⟩
instance findG_tail {p : HP} {L L' : List HP} {b it : Nat} {κ α : Type} {K : KeyT κ} {R : Rep α} {ag : Bool} {m done : List (κ × α)} [h : FindG L it b κ α K R ag m done L'] : FindG (p :: L) it b κ α K R ag m done (p :: L') := findG_t h
instance findG_head {L : List HP} {b it : Nat} {κ α : Type} {K : KeyT κ} {R : Rep α} {ag : Bool} {m done : List (κ × α)} : FindG (mrange K R ag b it m done :: L) it b κ α K R ag m done L := ⟨Gives.refl _⟩
theorem TL_range {x : Operand} {t kt et : TypeId} [ht : TyDesc P t (.map kt et)] [hf : FindM L b κ α K R ag m L0] (hd : Nat.blt d n = true) (hx : ev E x = some (.map (some b))) (h : ∀ it, TL r n P ops rest ⟨D, (d, .pointer (some ⟨it, 0, none⟩)) :: E, mrange K R ag b it m [] :: L0⟩ KK) :
    TL r n P ops (⟨some d, .range t x, ty, pos, af, none⟩ :: rest) ⟨D, E, L⟩ KK :=
  TL_val rfl hd rfl (fun _ e => by cases e) fun W a w hh => by
    obtain ⟨es, clock, l, hst, hp, hs1⟩ := omap_open (hh.2.gives hf.g)
    have hbw : w.heap[b]? = some (.map es clock) := hs1.own_at
    have hrun := run_range_map (P := P) w t kt et b es clock ht.under hbw
    refine ⟨_, _, mrange K R ag b w.heap.size m [] :: L0, by simp [execOp, hh.1.ev hx, hrun], (hs1.alloc (.mapIter (some b) clock #[] clock)).gives fun M q ⟨a1, a2, ad, b1, b2, ho, a3, a4, ad', b3, b4, hb, a5, a6, ad2, b5, b6, he, hsep⟩ => ?_, h _⟩
    have hne : w.heap.size ≠ b := by have := (Array.getElem?_eq_some_iff.1 hbw).1; omega
    refine ⟨a1.join a3, a6, Mem.join_disj (Mem.disj_le ad (Mem.le_refl _) (Mem.le_trans b6 b4)) (Mem.disj_le ad' (Mem.le_refl _) b6), Mem.join_le b1 (Mem.le_trans b3 b2), Mem.le_trans b6 (Mem.le_trans b4 b2), ⟨es, clock, l, #[], [], ?_, ?_, hne, hst, hp, he, List.nodup_nil, fun j hj => by simp at hj, rfl, rfl⟩, hsep⟩
    · exact Mem.le_join_right (Mem.disj_le ad (Mem.le_refl _) b3) _ _ hb
    · exact Mem.le_join_left _ _ _ _ ho
/-- The step: all came; or another one comes. -/
theorem TL_next {x : Operand} {it : Nat} {done : List (κ × α)} [hf : FindG L it b κ α K R ag m done L0] (hd : Nat.blt d n = true) (hx : ev E x = some (.pointer (some ⟨it, 0, none⟩)))
    (h0 : done.Perm m → TL r n P ops rest ⟨D, (d, .tuple #[.bool false]) :: E, L⟩ KK)
    (h1 : ∀ p cs, p ∈ m → (∀ q ∈ done, q.1 ≠ p.1) → done.length < m.length → TL r n P ops rest ⟨D, (d, .tuple #[.bool true, K.enc p.1, wrapV ag cs]) :: E, mrange K R ag b it m (done ++ [p]) :: L0⟩ KK) :
    TL r n P ops (⟨some d, .next x false, ty, pos, af, none⟩ :: rest) ⟨D, E, L⟩ KK :=
  TL_val rfl hd rfl (fun _ e => by cases e) fun W a w hh => by
    obtain ⟨M, q, hd', hM, hq, a1, a2, ad, l1, l2, ⟨es, clock, l, seen, js, hb, hit, hne, hst, hp, he, hnj, hlj, hseen, hdone⟩, hsep⟩ := (hh.2.gives hf.g).ex
    have hbw : w.heap[b]? = some (.map es clock) := hq _ _ (l1 _ _ hb)
    have hiw : w.heap[it]? = some (.mapIter (some b) clock seen clock) := hq _ _ (l1 _ _ hit)
    have hst' := (stamped_iff es clock).1 hst
    have hnd : ND l := he.nd hst'.2.2
    -- an entry's number is among those that came just where its stamp is
    have hin : ∀ (j : Nat) (e : MapEntry), es.toList[j]? = some e → (seen.contains e.born = true ↔ j ∈ js) := fun j e hj => by
      rw [Array.contains_iff_mem, ← Array.mem_toList_iff]
      constructor
      · intro hmem
        have : some e.born ∈ seen.toList.map some := List.mem_map.2 ⟨_, hmem, rfl⟩
        rw [hseen] at this
        obtain ⟨j', hj', e2⟩ := List.mem_map.1 this
        have hj'l : j' < es.toList.length := by rw [he.1]; exact hlj j' hj'
        rw [List.getElem?_eq_getElem hj'l] at e2
        simp only [Option.map_some, Option.some.injEq] at e2
        have hnb := hst'.2.1
        rw [List.Nodup, List.pairwise_iff_getElem] at hnb
        have hjl := (List.getElem?_eq_some_iff.1 hj).1
        have hjj : j' = j := by
          refine Classical.byContradiction fun hne' => ?_
          rcases Nat.lt_or_gt_of_ne hne' with hlt | hlt
          · exact hnb j' j (by simpa using hj'l) (by simpa using hjl) hlt (by rw [List.getElem_map, List.getElem_map, e2, ← (List.getElem?_eq_some_iff.1 hj).2])
          · exact hnb j j' (by simpa using hjl) (by simpa using hj'l) hlt (by rw [List.getElem_map, List.getElem_map, e2, ← (List.getElem?_eq_some_iff.1 hj).2])
        rw [← hjj]; exact hj'
      · intro hj'
        have : (es.toList[j]?).map (·.born) ∈ js.map (fun j => (es.toList[j]?).map (·.born)) := List.mem_map.2 ⟨j, hj', rfl⟩
        rw [← hseen, hj] at this
        obtain ⟨x, hx, e2⟩ := List.mem_map.1 this
        simp only [Option.map_some, Option.some.injEq] at e2
        rw [← e2]; exact hx
    rcases run_next_at (P := P) w ty it b clock clock seen es clock hiw hbw hst.1 (Nat.le_refl _) with ⟨g0, grun⟩ | ⟨e, hel, w1, hal, grun⟩
    · refine ⟨.tuple #[.bool false], w, L, by simp [execOp, hh.1.ev hx, grun], hh.2, h0 ?_⟩
      have hall := all_seen es seen g0
      have hperm : js.Perm (List.range l.length) := (List.perm_ext_iff_of_nodup hnj List.nodup_range).2 fun j => ⟨fun hj => List.mem_range.2 (hlj j hj), fun hj => by
        have hjl : j < es.toList.length := by rw [he.1]; exact List.mem_range.1 hj
        exact (hin j _ (List.getElem?_eq_getElem hjl)).1 (hall _ (List.getElem_mem hjl))⟩
      have h2 := hperm.map (fun j => l[j]?)
      have h3 : (List.range l.length).map (fun j => l[j]?) = l.map some := by
        apply List.ext_getElem?
        intro i
        by_cases hi : i < l.length
        · simp [hi]
        · simp [hi]
      rw [h3, ← hdone] at h2
      have h4 := h2.filterMap id
      simp only [List.filterMap_map, Function.comp_def, id, List.filterMap_some] at h4
      exact h4.trans hp
    · obtain ⟨hem, hes⟩ := mem_left hel
      obtain ⟨j, hj⟩ := List.getElem?_of_mem hem
      obtain ⟨p, hpl, hrel⟩ := he.at_ hj
      have hjn : j ∉ js := fun h => by rw [(hin j e hj).2 h] at hes; cases hes
      obtain ⟨r1, r2, cs, r3, r4⟩ := hrel
      have hpd : ∀ q ∈ done, q.1 ≠ p.1 := fun q h => by
        have : some q ∈ done.map some := List.mem_map.2 ⟨_, h, rfl⟩
        rw [hdone] at this
        obtain ⟨j', hj', e2⟩ := List.mem_map.1 this
        have hjj : j' ≠ j := fun e => hjn (e ▸ hj')
        have hnd' := hnd
        rw [ND, List.pairwise_iff_getElem] at hnd'
        have u1 := List.getElem?_eq_some_iff.1 hpl
        have u2 := List.getElem?_eq_some_iff.1 e2
        rcases Nat.lt_or_gt_of_ne hjj with hlt | hlt
        · have := hnd' j' j u2.1 u1.1 hlt
          rw [u2.2, u1.2] at this; exact this
        · have := hnd' j j' u1.1 u2.1 hlt
          rw [u2.2, u1.2] at this; exact Ne.symm this
      refine ⟨.tuple #[.bool true, K.enc p.1, wrapV ag cs], setBlock w1 it (.mapIter (some b) clock (seen.push e.born) clock), mrange K R ag b it m (done ++ [p]) :: L0, by simp [execOp, hh.1.ev hx, grun, r1, r4], ?_, h1 p cs (hp.mem_iff.1 (List.mem_of_getElem? hpl)) hpd (by
        have e1 : done.length = js.length := by have := congrArg List.length hdone; simpa using this
        have := nodup_len (l := j :: js) (n := l.length) (List.nodup_cons.2 ⟨hjn, hnj⟩) (fun x hx => by rcases List.mem_cons.1 hx with rfl | hx; exact (List.getElem?_eq_some_iff.1 hpl).1; exact hlj x hx)
        rw [e1, ← hp.length_eq]; simp only [List.length_cons] at this; omega)⟩
      have hs1 : Sat W w (own it (.mapIter (some b) clock seen clock) :: own b (.map es clock) :: entsP K R ag es.toList l :: L0) := by
        refine ⟨⟨M, q, hd', hM, hq, Mem.one it (.mapIter (some b) clock seen clock), (Mem.one b (.map es clock)).join a2, ?_, Mem.one_le (l1 _ _ hit), Mem.join_le (Mem.one_le (l1 _ _ hb)) l2, Mem.one_self _ _, Mem.one b (.map es clock), a2, ?_, Mem.le_join_left _ _, Mem.le_join_right ?_, Mem.one_self _ _, Mem.emp, a2, Mem.emp_disj _, Mem.emp_le _, Mem.le_refl _, he, hsep⟩, hh.2.os, hh.2.tape, hh.2.output, hh.2.size⟩
        · intro i
          by_cases hi : i = it
          · right
            subst hi
            have : a2 i = none := by
              rcases ad i with h | h
              · rw [hit] at h; cases h
              · exact h
            simp [Mem.join, Mem.one, hne, this]
          · left; simp [Mem.one, hi]
        all_goals
          intro i
          by_cases hi : i = b
          · right
            subst hi
            rcases ad i with h | h
            · rw [hb] at h; cases h
            · exact h
          · left; simp [Mem.one, hi]
      have hs2 : Sat W w1 (own it (.mapIter (some b) clock seen clock) :: own b (.map es clock) :: entsP K R ag es.toList l :: L0) := by
        rcases hal with rfl | rfl
        · exact hs1
        · exact hs1.drew
      refine (sat_setBlock (y := .mapIter (some b) clock (seen.push e.born) clock) hs2).gives fun N k ⟨c1, c2, cd, m1, m2, hi1, c3, c4, cd', m3, m4, hb1, c5, c6, cd2, m5, m6, hen, hsp⟩ => ?_
      refine ⟨c1.join c3, c6, Mem.join_disj (Mem.disj_le cd (Mem.le_refl _) (Mem.le_trans m6 m4)) (Mem.disj_le cd' (Mem.le_refl _) m6), Mem.join_le m1 (Mem.le_trans m3 m2), Mem.le_trans m6 (Mem.le_trans m4 m2), ⟨es, clock, l, seen.push e.born, js ++ [j], Mem.le_join_right (Mem.disj_le cd (Mem.le_refl _) m3) _ _ hb1, Mem.le_join_left _ _ _ _ hi1, hne, hst, hp, hen, ?_, ?_, ?_, ?_⟩, hsp⟩
      · rw [List.nodup_append]
        exact ⟨hnj, by simp, fun x hx y hy => by simp at hy; subst hy; exact fun e => hjn (e ▸ hx)⟩
      · intro x hx
        rcases List.mem_append.1 hx with hx | hx
        · exact hlj x hx
        · simp at hx; subst hx; exact (List.getElem?_eq_some_iff.1 hpl).1
      · rw [Array.toList_push, List.map_append, List.map_append, hseen, List.map_singleton, List.map_singleton, hj]; rfl
      · rw [List.map_append, List.map_append, hdone]
        simp [hpl]
/-- What the step handed out, read again. -/
theorem TL_entry {x : Operand} {it : Nat} {done : List (κ × α)} {p : κ × α} [hf : FindG L it b κ α K R ag m (done ++ [p]) L0] (hd : Nat.blt d n = true) (hx : ev E x = some (.pointer (some ⟨it, 0, none⟩)))
    (h : ∀ cs, K.ok p.1 → TL r n P ops rest ⟨D, (d, .tuple #[K.enc p.1, wrapV ag cs]) :: E, is R p.2 cs :: mrange K R ag b it m (done ++ [p]) :: L0⟩ KK) :
    TL r n P ops (⟨some d, .entry x, ty, pos, af, none⟩ :: rest) ⟨D, E, L⟩ KK :=
  TL_val rfl hd rfl (fun _ e => by cases e) fun W a w hh => by
    have hs := hh.2.gives hf.g
    obtain ⟨M, q, hd', hM, hq, a1, a2, ad, l1, l2, hm, hsep⟩ := hs.ex
    have hm' := hm
    obtain ⟨es, clock, l, seen, js, hb, hit, hne, hst, hp, he, hnj, hlj, hseen, hdone⟩ := hm'
    have hbw : w.heap[b]? = some (.map es clock) := hq _ _ (l1 _ _ hb)
    have hiw : w.heap[it]? = some (.mapIter (some b) clock seen clock) := hq _ _ (l1 _ _ hit)
    have hst' := (stamped_iff es clock).1 hst
    rcases List.eq_nil_or_concat js with rfl | ⟨js', j, rfl⟩
    · simp at hdone
    · have hlen : done.length = js'.length := by have := congrArg List.length hdone; simp at this; exact this
      rw [List.concat_eq_append] at hseen hdone hlj
      have hpl : l[j]? = some p := by
        have h1 := congrArg List.getLast? hdone
        simpa using h1.symm
      obtain ⟨e, hje⟩ : ∃ e, es.toList[j]? = some e := ⟨_, List.getElem?_eq_getElem (by rw [he.1]; exact hlj j (by simp))⟩
      have hback : ∃ s0 : Array Nat, seen = s0.push e.born := by
        have h1 := congrArg List.getLast? hseen
        simp only [List.map_append, List.map_cons, List.map_nil, List.getLast?_append, List.getLast?_singleton, Option.some_or, hje, Option.map_some] at h1
        rcases List.eq_nil_or_concat seen.toList with h | ⟨t, y, h⟩
        · rw [h] at h1; simp at h1
        · rw [h] at h1
          simp at h1
          exact ⟨t.toArray, by rw [← Array.toArray_toList (xs := seen), h, ← h1]; simp⟩
      obtain ⟨s0, rfl⟩ := hback
      have hrun := run_entry_at (P := P) w it b clock s0 es clock e hiw hbw (List.mem_of_getElem? hje) hst'.2.1
      obtain ⟨r1, r2, cs, r3, r4⟩ := he.2 j e p hje hpl
      exact ⟨.tuple #[K.enc p.1, wrapV ag cs], w, is R p.2 cs :: mrange K R ag b it m (done ++ [p]) :: L0, by simp [execOp, hh.1.ev hx, hrun, r1, r4],
        ⟨⟨M, q, hd', hM, hq, Mem.emp, q, Mem.emp_disj _, Mem.emp_le _, Mem.le_refl _, r3, a1, a2, ad, l1, l2, hm, hsep⟩, hs.os, hs.tape, hs.output, hs.size⟩, h cs r2⟩
/-- The range is over: the map is as it was. -/
theorem mrange_end {it : Nat} {done : List (κ × α)} : Gives (mrange K R ag b it m done :: L) (omap K R ag b m :: L) := fun M k ⟨h1, h2, hd, l1, l2, ⟨es, clock, l, seen, js, hb, hit, hne, hst, hp, he, _⟩, hs⟩ => ⟨h1, h2, hd, l1, l2, ⟨es, clock, l, hb, hst, hp, he⟩, hs⟩
end
end Go.SL
set_option linter.unusedVariables false
set_option linter.unusedSimpArgs false
set_option linter.unusedSectionVars false
namespace Go.SL
open Go
/-- Assertions with a key: the one of key k is p; R: all else. -/
class FindK (L : List HP) (k : Nat) (p : outParam HP) (R : outParam (List HP)) : Prop where
  g : Gives L (p :: R)
instance findK_tail {q : HP} {L R : List HP} {k : Nat} {p : HP} [h : FindK L k p R] : FindK (q :: L) k p (q :: R) := ⟨(Gives.cons q h.g).trans (Gives.swap q _ R)⟩
theorem sep_append {M : Mem} {B : List HP} : ∀ {A : List HP} {h h1 h2 : Mem}, Sep A M h1 → Sep B M h2 → h1.disj h2 → h1.le h → h2.le h → Sep (A ++ B) M h
  | [], h, h1, h2, _, hb, _, _, l2 => Sep.mono (Mem.le_refl _) l2 hb
  | p :: A, h, h1, h2, ⟨a1, a2, ad, m1, m2, hp, hs⟩, hb, hd, l1, l2 => by
    refine ⟨a1, a2.join h2, ?_, Mem.le_trans m1 l1, Mem.join_le (Mem.le_trans m2 l1) l2, hp, sep_append (h := a2.join h2) hs hb (Mem.disj_le hd m2 (Mem.le_refl _)) (Mem.le_join_left _ _) (Mem.le_join_right (Mem.disj_le hd m2 (Mem.le_refl _)))⟩
    exact Mem.disj_symm (Mem.join_disj (Mem.disj_symm ad) (Mem.disj_symm (Mem.disj_le hd m1 (Mem.le_refl _))))
theorem sep_split {M : Mem} {B : List HP} : ∀ {A : List HP} {h : Mem}, Sep (A ++ B) M h → ∃ h1 h2, h1.disj h2 ∧ h1.le h ∧ h2.le h ∧ Sep A M h1 ∧ Sep B M h2
  | [], h, hs => ⟨Mem.emp, h, Mem.emp_disj _, Mem.emp_le _, Mem.le_refl _, trivial, hs⟩
  | p :: A, h, ⟨a1, a2, ad, m1, m2, hp, hs⟩ => by
    obtain ⟨b1, b2, bd, n1, n2, hA, hB⟩ := sep_split hs
    refine ⟨a1.join b1, b2, ?_, Mem.join_le m1 (Mem.le_trans n1 m2), Mem.le_trans n2 m2, ⟨a1, b1, Mem.disj_le ad (Mem.le_refl _) n1, Mem.le_join_left _ _, Mem.le_join_right (Mem.disj_le ad (Mem.le_refl _) n1), hp, hA⟩, hB⟩
    exact Mem.join_disj (Mem.disj_le ad (Mem.le_refl _) n2) bd
def exH {β : Type} (f : β → List HP) : HP := ⟨fun M h => ∃ x, Sep (f x) M h, fun hM hh ⟨x, h⟩ => ⟨x, Sep.mono hM hh h⟩⟩
theorem exH_close {β : Type} {f : β → List HP} {L : List HP} (x : β) : Gives (f x ++ L) (exH f :: L) := fun M h hs => by
  obtain ⟨h1, h2, hd, l1, l2, hA, hB⟩ := sep_split hs
  exact ⟨h1, h2, hd, l1, l2, ⟨x, hA⟩, hB⟩
theorem exH_open {β : Type} {f : β → List HP} {L : List HP} {W w : World} (h : Sat W w (exH f :: L)) : ∃ x, Sat W w (f x ++ L) := by
  obtain ⟨M, k, hd, hM, hk, h1, h2, hd', l1, l2, ⟨x, hx⟩, hs⟩ := h.ex
  exact ⟨x, ⟨M, k, hd, hM, hk, sep_append hx hs hd' l1 l2⟩, h.os, h.tape, h.output, h.size⟩
section
variable {r : Option Nat} {n : Nat} {P : Program} {ops : Array Oper} {rest : List Oper} {K : St → Prop} {Q : Exit → St → Prop} {D : List Deferred} {E : Env} {L L' : List HP} {d : Nat} {ty : TypeId} {pos : String} {af : Array Edge}
theorem TL_pullk (k : Nat) {p : HP} {R : List HP} [hf : FindK L k p R] (h : TL r n P ops rest ⟨D, E, p :: R⟩ K) : TL r n P ops rest ⟨D, E, L⟩ K := TL_gives hf.g h
theorem T_exH {β : Type} {f : β → List HP} {c : Code} (h : ∀ x, T r n P c ⟨D, E, f x ++ L⟩ Q) : T r n P c ⟨D, E, exH f :: L⟩ Q := fun W a w hh => by
  obtain ⟨x, hx⟩ := exH_open hh.2
  exact h x W a w ⟨hh.1, hx⟩
end
end Go.SL
set_option linter.unusedVariables false
set_option linter.unusedSimpArgs false
namespace Go.SL
open Go Go.Proofs
structure EventD where
  dot : Int × Int
  deps : List Int
  cart : ByteArray
  epoch : Int
  sku : ByteArray
  qty : Int
  clears : Bool
structure MsgD where
  kind : Int
  frm : Int
  to_ : Int
  bal : Int × Int
  slot : Int
  en : EntryD
  voted : List VotedD
  seen : List Int
  events : List EventD
  time : Int
abbrev eventC (e : EventD) (p : Option Addr × Nat) : List Value := [.int .i64 e.dot.1, .int .i64 e.dot.2, .slice p.1 e.deps.length p.2, .string e.cart, .int .i64 e.epoch, .string e.sku, .int .i64 e.qty, .bool e.clears]
def eventOk (e : EventD) : Prop := intIn .i64 e.dot.1 ∧ intIn .i64 e.dot.2 ∧ e.deps.length ≤ 17592186043904 ∧ e.cart.size ≤ maxEl ∧ intIn .i64 e.epoch ∧ e.sku.size ≤ maxEl ∧ intIn .i64 e.qty
def eventR : Rep EventD := exR 8 eventC (fun e p => [sl (intR .i64) p.1 p.2 e.deps]) eventOk (fun _ _ => rfl) (fun _ _ => rfl)

/-! ### What is written -/
abbrev WS := List Int × Bool
def wNum (most n : Int) (s : WS) : WS := if n < 0 ∨ n > most then (s.1, true) else (s.1 ++ grp n.toNat, s.2)
def wName (t : ByteArray) (s : WS) : WS := let u := wNum 65536 (t.size : Int) (s.1, s.2 || !decide (isName t)); (u.1 ++ strBytes t, u.2)
def wTruth (b : Bool) (s : WS) : WS := wNum 1 (if b then 1 else 0) s
def lastZero (v : List Int) : Bool := decide (0 < v.length ∧ v[v.length - 1]? = some 0)
def wInts (v : List Int) (s : WS) : WS := v.foldl (fun s n => wNum 2147483647 n s) s
def wVec (v : List Int) (s : WS) : WS := wInts v (wNum 7 (v.length : Int) (s.1, s.2 || lastZero v))
def wBal (a : Int × Int) (s : WS) : WS := wNum 6 a.2 (wNum 2147483647 a.1 s)
def wSeal (x : OrderD) (s : WS) : WS := wVec x.cut (wNum 2147483647 x.epoch (wName x.cart (wName x.token s)))
def someSeal (x : OrderD) : Bool := decide (x.token ≠ emptyS) || decide (x.cart ≠ emptyS) || decide (x.epoch ≠ 0) || decide (0 < (x.cut.length : Int))
def wEntry (e : EntryD) (s : WS) : WS := let u := wTruth e.noop s; if e.noop = true then (u.1, u.2 || someSeal e.order) else wSeal e.order u
def wEvent (e : EventD) (s : WS) : WS := wTruth e.clears (wNum 1000 e.qty (wName e.sku (wNum 2147483647 e.epoch (wName e.cart (wVec e.deps (wNum 2147483647 e.dot.2 (wNum 6 e.dot.1 s)))))))
def wVoted (v : VotedD) (s : WS) : WS := wEntry v.en (wBal v.bal (wNum 2147483647 v.slot s))
def wVoteds (l : List VotedD) (s : WS) : WS := l.foldl (fun s v => wVoted v s) s
def wEvents (l : List EventD) (s : WS) : WS := l.foldl (fun s v => wEvent v s) s
def wMsg (m : MsgD) (s : WS) : WS := wNum 4611686018427387904 m.time (wEvents m.events (wNum 4096 (m.events.length : Int) (wVec m.seen (wVoteds m.voted (wNum 4096 (m.voted.length : Int)
  (wEntry m.en (wNum 2147483647 m.slot (wBal m.bal (wNum 6 m.to_ (wNum 6 m.frm (wNum 255 m.kind s)))))))))))

/-! ### How much is written -/
def cSeal (x : OrderD) : Nat := x.token.size + x.cart.size + 10 * x.cut.length + 60
def cEvent (e : EventD) : Nat := e.cart.size + e.sku.size + 10 * e.deps.length + 100
def cVoted (v : VotedD) : Nat := cSeal v.en.order + 50
def cVoteds (l : List VotedD) : Nat := (l.map cVoted).sum
def cEvents (l : List EventD) : Nat := (l.map cEvent).sum
def cMsg (m : MsgD) : Nat := cSeal m.en.order + cVoteds m.voted + 10 * m.seen.length + cEvents m.events + 200
/-! ### The writer in memory -/
abbrev wrF (b : Nat) (s : WS) (p : Option Addr × Nat) : List HP := [cells b [.slice p.1 s.1.length p.2, .bool s.2] 114, osl (intR .u8) 5 p.1 p.2 s.1]
def wr (b : Nat) (s : WS) : HP := exH (wrF b s)
section
variable {r : Option Nat} {n : Nat} {P : Program} {ops : Array Oper} {rest : List Oper} {K : St → Prop} {Q : Exit → St → Prop} {D : List Deferred} {E : Env} {L L' : List HP} {b : Nat} {s : WS}
end
instance findK_wr {L : List HP} {b : Nat} {s : WS} : FindK (wr b s :: L) b (wr b s) L := ⟨Gives.refl _⟩
end Go.SL
set_option linter.unusedVariables false
set_option linter.unusedSimpArgs false
namespace Go.SL
open Go Go.Proofs
end Go.SL
set_option linter.unusedVariables false
set_option linter.unusedSimpArgs false
namespace Go.SL
open Go Go.Proofs
structure MsgP where
  cut : Option Addr × Nat
  voted : Option Addr × Nat
  seen : Option Addr × Nat
  events : Option Addr × Nat
abbrev msgC (m : MsgD) (p : MsgP) : List Value := [.int .i64 m.kind, .int .i64 m.frm, .int .i64 m.to_, .int .i64 m.bal.1, .int .i64 m.bal.2, .int .i64 m.slot, .bool m.en.noop, .string m.en.order.token, .string m.en.order.cart, .int .i64 m.en.order.epoch, .slice p.cut.1 m.en.order.cut.length p.cut.2,
  .slice p.voted.1 m.voted.length p.voted.2, .slice p.seen.1 m.seen.length p.seen.2, .slice p.events.1 m.events.length p.events.2, .int .i64 m.time]
structure MsgK (L : List HP) (m : MsgD) (p : MsgP) : Prop where
  cut : SlK L (intR .i64) p.cut.1 p.cut.2 m.en.order.cut
  voted : SlK L votedR p.voted.1 p.voted.2 m.voted
  seen : SlK L (intR .i64) p.seen.1 p.seen.2 m.seen
  events : SlK L eventR p.events.1 p.events.2 m.events
structure MsgOk (m : MsgD) : Prop where
  kind : intIn .i64 m.kind
  frm : intIn .i64 m.frm
  to_ : intIn .i64 m.to_
  b1 : intIn .i64 m.bal.1
  b2 : intIn .i64 m.bal.2
  slot : intIn .i64 m.slot
  en : orderOk' m.en.order
  time : intIn .i64 m.time
theorem MsgK.tail {p0 : HP} {L : List HP} {m : MsgD} {p : MsgP} (h : MsgK L m p) : MsgK (p0 :: L) m p := ⟨h.cut.tail, h.voted.tail, h.seen.tail, h.events.tail⟩
set_option maxRecDepth 10000 in

/-! ### What is handed out -/
/-- What becomes of what was written: bytes, or an error. -/
def outB (s : WS) : List Int := if s.2 = true ∨ 65536 < s.1.length then [] else s.1
def outE (s : WS) : Int := if s.2 = true then 1 else if 65536 < s.1.length then 3 else 0
def outW (s : WS) (v : Value) (L L' : List HP) : Prop := ∃ A c, v = .tuple #[.slice A (outB s).length c, .int .i64 (outE s)] ∧ L' = osl (intR .u8) 5 A c (outB s) :: L
end Go.SL
set_option linter.unusedVariables false
set_option linter.unusedSimpArgs false
namespace Go.SL
open Go Go.Proofs
def rNum (most n : Int) : Prop := 0 ≤ n ∧ n ≤ most
instance (most n : Int) : Decidable (rNum most n) := by unfold rNum; exact inferInstance
def rVec (v : List Int) : Prop := (∀ n ∈ v, rNum 2147483647 n) ∧ v.length ≤ 7 ∧ lastZero v = false
instance (v : List Int) : Decidable (rVec v) := by unfold rVec; exact inferInstance
def rBal (a : Int × Int) : Prop := rNum 2147483647 a.1 ∧ rNum 6 a.2
instance (a : Int × Int) : Decidable (rBal a) := by unfold rBal; exact inferInstance
def rSeal (x : OrderD) : Prop := isName x.token ∧ isName x.cart ∧ rNum 2147483647 x.epoch ∧ rVec x.cut
instance (x : OrderD) : Decidable (rSeal x) := by unfold rSeal; exact inferInstance
def rEntry (e : EntryD) : Prop := if e.noop = true then someSeal e.order = false else rSeal e.order
instance (e : EntryD) : Decidable (rEntry e) := by unfold rEntry; exact inferInstance
def rEvent (e : EventD) : Prop := rNum 6 e.dot.1 ∧ rNum 2147483647 e.dot.2 ∧ rVec e.deps ∧ isName e.cart ∧ rNum 2147483647 e.epoch ∧ isName e.sku ∧ rNum 1000 e.qty
instance (e : EventD) : Decidable (rEvent e) := by unfold rEvent; exact inferInstance
def rVoted (v : VotedD) : Prop := rNum 2147483647 v.slot ∧ rBal v.bal ∧ rEntry v.en
instance (v : VotedD) : Decidable (rVoted v) := by unfold rVoted; exact inferInstance
def rMsg (m : MsgD) : Prop := rNum 255 m.kind ∧ rNum 6 m.frm ∧ rNum 6 m.to_ ∧ rBal m.bal ∧ rNum 2147483647 m.slot ∧ rEntry m.en ∧ (m.voted.length ≤ 4096 ∧ ∀ v ∈ m.voted, rVoted v) ∧ rVec m.seen ∧ (m.events.length ≤ 4096 ∧ ∀ v ∈ m.events, rEvent v) ∧ rNum 4611686018427387904 m.time
instance (m : MsgD) : Decidable (rMsg m) := by unfold rMsg; exact inferInstance

/-! ### A message that only bears an entry -/
def mEntry (e : EntryD) : MsgD := ⟨0, 0, 0, (0, 0), 0, e, [], [], [], 0⟩
/-! ### Contracts -/
theorem i0 : intIn .i64 0 := by decide
end Go.SL
set_option linter.unusedVariables false
set_option linter.unusedSimpArgs false
set_option linter.unusedSectionVars false
namespace Go.SL
open Go Go.Lib
/-- The elements' words are of M, their cells lie in N. -/
def sliceAt2 {α : Type} (M N : Mem) (R : Rep α) (A : Option Addr) (c : Nat) (xs : List α) : Prop :=
  xs.length ≤ c ∧ xs.length ≤ maxEl ∧ (xs = [] ∨ ∃ b o, A = some ⟨b, o, none⟩ ∧ ∃ cs t fr, N b = some (.cells cs t fr) ∧ ∀ i x, xs[i]? = some x → ∃ l, R.rep M x l ∧ ∀ j v, l[j]? = some v → cs[o + i * R.sz + j]? = some v)
def SlN {α : Type} (L : List HP) (R : Rep α) (A : Option Addr) (c : Nat) (xs : List α) : Prop := ∀ M h N, M.disj h → Sep L M h → M.le N → h.le N → sliceAt2 M N R A c xs
section
variable {α : Type} {R : Rep α} {A : Option Addr} {c : Nat} {xs : List α} {L L' : List HP}
theorem SlK.n (h : SlK L R A c xs) : SlN L R A c xs := fun M k N hd hs hM hk => by
  obtain ⟨a, b, e⟩ := h M k hs
  refine ⟨a, b, e.imp id ?_⟩
  rintro ⟨b, o, rfl, cs, t, fr, hb, hall⟩
  exact ⟨b, o, rfl, cs, t, fr, hM _ _ hb, hall⟩
theorem SlN.tail {p : HP} (h : SlN L R A c xs) : SlN (p :: L) R A c xs := fun M k N hd ⟨h1, h2, hd', l1, l2, hp, hs⟩ hM hk => h M h2 N (Mem.disj_le hd (Mem.le_refl _) l2) hs hM (Mem.le_trans l2 hk)
theorem SlN.of_gives (g : Gives L L') (h : SlN L' R A c xs) : SlN L R A c xs := fun M k N hd hs hM hk => h M k N hd (g M k hs) hM hk
theorem osl_n {t : TypeId} : SlN (osl R t A c xs :: L) R A c xs := fun M k N hd ⟨h1, h2, hd', l1, l2, hp, hs⟩ hM hk => by
  refine ⟨?_, hp.1, ?_⟩
  · rcases hp.2 with ⟨rfl, rfl⟩ | ⟨g, cur, _, _, _, hl, _⟩
    · simp
    · exact hl
  · rcases hp.2 with ⟨_, e⟩ | ⟨g, cur, e, hg, hsz, hl, hc, hx⟩
    · exact .inl e
    · exact .inr ⟨g, 0, e, cur, t, (0, 0), hk _ _ (l1 _ _ hg), fun i x hi => let ⟨l, a, b⟩ := hx i x hi; ⟨l, a, fun j v hj => by rw [Nat.zero_add]; exact b j v hj⟩⟩
theorem SlN.nil : SlN L R A c ([] : List α) := fun M k N _ _ _ _ => ⟨Nat.zero_le _, Nat.zero_le _, .inl rfl⟩
theorem SlN.len (h : SlN L R A c xs) {W w : World} (hs : Sat W w L) : xs.length ≤ c ∧ xs.length ≤ maxEl := by
  obtain ⟨M, k, hd, hM, hk, hsep⟩ := hs.ex
  have := h M k (heapOf w) hd hsep hM hk
  exact ⟨this.1, this.2.1⟩
end
class FindN (L : List HP) (A : Option Addr) (c : Nat) (α : outParam Type) (R : outParam (Rep α)) (xs : outParam (List α)) : Prop where
  k : SlN L R A c xs
instance findN_tail {p : HP} {L : List HP} {A : Option Addr} {c : Nat} {α : Type} {R : Rep α} {xs : List α} [h : FindN L A c α R xs] : FindN (p :: L) A c α R xs := ⟨h.k.tail⟩
instance findN_sl {L : List HP} {A : Option Addr} {c : Nat} {α : Type} {R : Rep α} {xs : List α} : FindN (sl R A c xs :: L) A c α R xs := ⟨SlK.n (Knows.head' fun _ _ h => h)⟩
instance findN_osl {L : List HP} {A : Option Addr} {c : Nat} {α : Type} {R : Rep α} {t : TypeId} {xs : List α} : FindN (osl R t A c xs :: L) A c α R xs := ⟨osl_n⟩
theorem sln {L : List HP} {A : Option Addr} {c : Nat} {α : Type} {R : Rep α} {xs : List α} [h : FindN L A c α R xs] : SlN L R A c xs := h.k
section
variable {r : Option Nat} {n : Nat} {P : Program} {ops : Array Oper} {rest : List Oper} {K : St → Prop} {Q : Exit → St → Prop} {D : List Deferred} {E : Env} {L L' : List HP} {d : Nat} {ty : TypeId} {pos : String} {af : Array Edge}
variable {α : Type} {R : Rep α} {A : Option Addr} {c : Nat} {xs ys : List α}
theorem SlN.lens {c' : Code} (hk : SlN L R A c xs) (h : xs.length ≤ c ∧ xs.length ≤ maxEl → T r n P c' ⟨D, E, L⟩ Q) : T r n P c' ⟨D, E, L⟩ Q := fun W a w hh => h (hk.len hh.2) W a w hh
theorem SlN.lensL (hk : SlN L R A c xs) (h : xs.length ≤ c ∧ xs.length ≤ maxEl → TL r n P ops rest ⟨D, E, L⟩ K) : TL r n P ops rest ⟨D, E, L⟩ K := fun W a w hh => h (hk.len hh.2) W a w hh
theorem SlN.none_nil {c' : Code} (hk : SlN L R none c xs) (h : xs = [] → T r n P c' ⟨D, E, L⟩ Q) : T r n P c' ⟨D, E, L⟩ Q := fun W a w hh => by
  obtain ⟨M, k, hd, hM, hk', hsep⟩ := hh.2.ex
  rcases (hk M k (heapOf w) hd hsep hM hk').2.2 with e | ⟨b, o, e, _⟩
  · exact h e W a w hh
  · cases e
theorem cells_of_slice2 {M N : Mem} {w : World} (hN : N.le (heapOf w)) (h : sliceAt2 M N R A c xs) : ∃ cs, CellsOf M R xs cs ∧ (xs.length = 0 ∨ ∃ a, A = some a ∧ ∀ j v, cs[j]? = some v → w.cell? (a.add j) = some v) := by
  rcases h.2.2 with rfl | ⟨b, o, rfl, cur, t, fr, hb, hall⟩
  · exact ⟨[], rfl, .inl rfl⟩
  · obtain ⟨cs, h1, h2⟩ := cells_of_array (R := R) (M := M) (cur := cur) (o := o) (xs := xs) (k := 0) (fun i x hi => by
      obtain ⟨l, a, b⟩ := hall i x hi
      exact ⟨l, a, fun j v hj => by rw [Nat.zero_add]; exact b j v hj⟩)
    refine ⟨cs, h1, .inr ⟨_, rfl, fun j v hj => ?_⟩⟩
    rw [Addr.add_plain, cell_of (hN _ _ hb)]
    simpa using h2 j v hj
/-- append to a slice that is ours of one that is read. -/
theorem TL_append_n {x y : Operand} {t u e : TypeId} {z : Value} {bytes c2 : Nat} {A2 : Option Addr} {L0 : List HP} [ht : TyDesc P t (.slice e)] [hu : TyDesc P u (.slice e)] (hd : Nat.blt d n = true) (hx : ev E x = some (.slice A xs.length c)) (hy : ev E y = some (.slice A2 ys.length c2)) [hf : FindO L A c α R e xs L0]
    [he : TyElem P e z R.sz bytes] (hz : z.cells.size = R.sz) (hb : Nat.blt 0 bytes = true) (hsrc : SlN L0 R A2 c2 ys) (hfit : (xs.length + ys.length) * bytes ≤ 140737488355328)
    (h : ∀ A' c', TL r n P ops rest ⟨D, (d, .slice A' (xs ++ ys).length c') :: E, osl R e A' c' (xs ++ ys) :: L0⟩ K) :
    TL r n P ops (⟨some d, .call { callee := .builtin .append, args := #[x, y], argTypes := #[t, u] }, ty, pos, af, none⟩ :: rest) ⟨D, E, L⟩ K :=
  TL_val rfl hd rfl (fun _ e => by cases e) fun W a w hh => by
    have hs := hh.2.gives hf.g
    obtain ⟨M', k', hd1', hM', hk', g1, g2, gd, m1, m2, hp, hsep'⟩ := hs.ex
    obtain ⟨cs, h1, h2⟩ := cells_of_slice2 (Mem.le_refl _) (hsrc M' g2 (heapOf w) (Mem.disj_le hd1' (Mem.le_refl _) m2) hsep' hM' (Mem.le_trans m2 hk'))
    have hsl : Src P u R.sz (.slice A2 ys.length c2) ys.length cs w := src_slice (u := u) (e := e) h2 h1.length h1.one
    have hsat : Sat W w (osl R e A c xs :: pers (fun M => CellsOf M R ys cs) (fun hM h => cellsOf_mono hM h) :: L0) :=
      ⟨⟨M', k', hd1', hM', hk', g1, g2, gd, m1, m2, hp, Mem.emp, g2, Mem.emp_disj _, Mem.emp_le _, Mem.le_refl _, h1, hsep'⟩, hs.os, hs.tape, hs.output, hs.size⟩
    obtain ⟨A', c', w', hr, hs'⟩ := append_own (P := P) (t := t) (u := u) (by simpa using hb) hz hsat hsl (fun N m hm _ => by obtain ⟨_, _, _, _, _, hp, _⟩ := hm; exact hp) hfit ty
    refine ⟨_, w', _, ?_, hs'.gives (Gives.cons _ (Gives.drop _ _)), h A' c'⟩
    simp [execOp, resolve, invoke, builtin, hh.1.ev hx, hh.1.ev hy, hr]
/-! ### Elements, wherever they lie -/
theorem TL_index_n {x i : Operand} {t e : TypeId} {ik : IntKind} {j k : Nat} {u : α} [ht : TyDesc P t (.slice e)] [hz : TySize P e R.sz] (hd : Nat.blt d n = true) (hx : ev E x = some (.slice A k c)) (hi : ev E i = some (.int ik (j : Int))) (hkl : k = xs.length) (hk : SlN L R A c xs) (hu : xs[j]? = some u)
    (h : ∀ b o, A = some ⟨b, o, none⟩ → SlN L R (some ⟨b, o, none⟩) c xs → TL r n P ops rest ⟨D, (d, .pointer (some ⟨b, o + j * R.sz + 0, none⟩)) :: E, L⟩ K) : TL r n P ops (⟨some d, .indexAddr t x i, ty, pos, af, none⟩ :: rest) ⟨D, E, L⟩ K := fun W a w hh => by
  subst hkl
  obtain ⟨M, q, hd', hM, hq, hsep⟩ := hh.2.ex
  rcases (hk M q (heapOf w) hd' hsep hM hq).2.2 with e | ⟨b, o, e, _⟩
  · rw [e] at hu; simp at hu
  · subst e
    have hlt : j < xs.length := (List.getElem?_eq_some_iff.1 hu).1
    exact TL_y hd rfl (Y_index_at hx hi hlt (b := b) (o := o + j * R.sz) ⟨o, rfl, rfl⟩) (h b o rfl hk) W a w hh
theorem Y_index_n {x i : Operand} {t e : TypeId} {ik : IntKind} {j k b o : Nat} {u : α} [ht : TyDesc P t (.slice e)] [hz : TySize P e R.sz] (hx : ev E x = some (.slice (some ⟨b, o, none⟩) k c)) (hi : ev E i = some (.int ik (j : Int))) (hkl : k = xs.length) (hu : xs[j]? = some u) :
    Yl P E L (.indexAddr t x i) ty (.pointer (some ⟨b, o + j * R.sz + 0, none⟩)) := by
  subst hkl
  have hlt : j < xs.length := (List.getElem?_eq_some_iff.1 hu).1
  exact Y_index_at hx hi hlt (b := b) (o := o + j * R.sz) ⟨o, rfl, rfl⟩
/-- Where a slice lies that is not empty. -/
theorem T_addr_n {c' : Code} {j : Nat} {u : α} (hk : SlN L R A c xs) (hu : xs[j]? = some u) (h : ∀ b o, A = some ⟨b, o, none⟩ → T r n P c' ⟨D, E, L⟩ Q) : T r n P c' ⟨D, E, L⟩ Q := fun W a w hh => by
  obtain ⟨M, q, hd', hM, hq, hsep⟩ := hh.2.ex
  rcases (hk M q (heapOf w) hd' hsep hM hq).2.2 with e | ⟨b, o, e, _⟩
  · rw [e] at hu; simp at hu
  · exact h b o e W a w hh
theorem elem_n {b o j : Nat} {u : α} (hk : SlN L R (some ⟨b, o, none⟩) c xs) (hu : xs[j]? = some u) {W w : World} (hs : Sat W w L) : ∃ l, l.length = R.sz ∧ Sat W w (is R u l :: L) ∧ ∀ q v, l[q]? = some v → w.cell? ⟨b, o + j * R.sz + q, none⟩ = some v := by
  obtain ⟨M, k, hd', hM, hq, hsep⟩ := hs.ex
  rcases (hk M k (heapOf w) hd' hsep hM hq).2.2 with e | ⟨b', o', e, cs, t, fr, hb, hall⟩
  · rw [e] at hu; simp at hu
  · cases e
    obtain ⟨l, hl, hc⟩ := hall j u hu
    refine ⟨l, R.len hl, ⟨⟨M, k, hd', hM, hq, Mem.emp, k, Mem.emp_disj _, Mem.emp_le _, Mem.le_refl _, hl, hsep⟩, hs.os, hs.tape, hs.output, hs.size⟩, fun q v hv => ?_⟩
    rw [cell_of hb]
    exact hc q v hv
theorem run_load_at {t : TypeId} {b o q m : Nat} {l vs : List Value} {w : World} [ht : TyAgg P t true] [hz : TySize P t m] (hc : ∀ q v, l[q]? = some v → w.cell? ⟨b, o + q, none⟩ = some v) (hv : cutN q m l = some vs) : (loadVar t ⟨b, o + q, none⟩).run P w = .ok (.agg vs.toArray) w := by
  obtain ⟨e, hl⟩ := cutN_eq hv
  refine run_loadVar_agg (hk := by rw [e]; simp; omega) (fun i v hi => ?_)
  rw [e, List.getElem?_take] at hi
  split at hi
  · rw [List.getElem?_drop] at hi
    have := hc _ _ hi
    rwa [Nat.add_assoc]
  · cases hi
section ex
variable {β : Type} {sz : Nat} {f : α → β → List Value} {g : α → β → List HP} {ok : α → Prop} {hlen : ∀ x p, (f x p).length = sz} {hone : ∀ x p, oneN (f x p) = true}
theorem sat_ex {u : α} {l : List Value} {W w : World} (h : Sat W w (is (exR sz f g ok hlen hone) u l :: L)) : ∃ p, l = f u p ∧ ok u ∧ Sat W w (g u p ++ L) := by
  obtain ⟨M, k, hd, hM, hk, h3, h4, hd2, l3, l4, ⟨p, e, hs, hok⟩, hL⟩ := h.ex
  exact ⟨p, e, hok, ⟨M, k, hd, hM, hk, sep_app hs (Sep.mono (Mem.le_refl _) l4 hL)⟩, h.os, h.tape, h.output, h.size⟩
/-- Of elements that hold slices: a part of several cells. -/
theorem TL_load_nx {x : Operand} {t : TypeId} {b o j q m : Nat} {u : α} {vs : β → List Value} [ht : TyAgg P t true] [hz : TySize P t m] (hd : Nat.blt d n = true) (hx : ev E x = some (.pointer (some ⟨b, o + j * sz + q, none⟩))) (hk : SlN L (exR sz f g ok hlen hone) (some ⟨b, o, none⟩) c xs) (hu : xs[j]? = some u) (hv : ∀ p, cutN q m (f u p) = some (vs p))
    (h : ∀ p, ok u → TL r n P ops rest ⟨D, (d, .agg (vs p).toArray) :: E, g u p ++ L⟩ K) : TL r n P ops (⟨some d, .load t x, ty, pos, af, none⟩ :: rest) ⟨D, E, L⟩ K :=
  TL_val rfl hd rfl (fun _ e => by cases e) fun W a w hh => by
    obtain ⟨l, hl, hs, hc⟩ := elem_n hk hu hh.2
    obtain ⟨p, rfl, hok, hs2⟩ := sat_ex hs
    have hc : ∀ (q : Nat) (v : Value), (f u p)[q]? = some v → w.cell? ⟨b, o + j * sz + q, none⟩ = some v := hc
    exact ⟨_, w, _, by simp only [execOp, hh.1.ev hx, Instr.loadAt, Instr.sureAddr, Sem.run_bind, Sem.run_pure, Result.andThen_ok, run_load_at hc (hv p)], hs2, h p hok⟩
/-- One cell, which may tell of a slice. -/
theorem TL_load_nx1 {x : Operand} {t : TypeId} {b o j q : Nat} {u : α} {v : β → Value} [ht : TyAgg P t false] (hd : Nat.blt d n = true) (hx : ev E x = some (.pointer (some ⟨b, o + j * sz + q, none⟩))) (hk : SlN L (exR sz f g ok hlen hone) (some ⟨b, o, none⟩) c xs) (hu : xs[j]? = some u) (hv : ∀ p, cellN (f u p) q = some (v p))
    (h : ∀ p, ok u → TL r n P ops rest ⟨D, (d, v p) :: E, g u p ++ L⟩ K) : TL r n P ops (⟨some d, .load t x, ty, pos, af, none⟩ :: rest) ⟨D, E, L⟩ K :=
  TL_val rfl hd rfl (fun _ e => by cases e) fun W a w hh => by
    obtain ⟨l, hl, hs, hc⟩ := elem_n hk hu hh.2
    obtain ⟨p, rfl, hok, hs2⟩ := sat_ex hs
    have hc : ∀ (q : Nat) (v : Value), (f u p)[q]? = some v → w.cell? ⟨b, o + j * sz + q, none⟩ = some v := hc
    exact ⟨_, w, _, by simp only [execOp, hh.1.ev hx, Instr.loadAt, Instr.sureAddr, Sem.run_bind, Sem.run_pure, Result.andThen_ok, run_loadVar_one (hc q _ (cellN_eq (hv p)))], hs2, h p hok⟩
/-- One cell that tells of no slice: it only reckons. -/
theorem Y_load_nx {x : Operand} {t : TypeId} {b o j q : Nat} {u : α} {v : Value} [ht : TyAgg P t false] (hx : ev E x = some (.pointer (some ⟨b, o + j * sz + q, none⟩))) (hk : SlN L (exR sz f g ok hlen hone) (some ⟨b, o, none⟩) c xs) (hu : xs[j]? = some u) (hv : ∀ p, cellN (f u p) q = some v) : Yl P E L (.load t x) ty v := fun n D W a w dst pos af gd ha hs => by
  obtain ⟨l, hl, hs1, hc⟩ := elem_n hk hu hs
  obtain ⟨p, rfl, hok, hs2⟩ := sat_ex hs1
  have hc : ∀ (q : Nat) (v : Value), (f u p)[q]? = some v → w.cell? ⟨b, o + j * sz + q, none⟩ = some v := hc
  simp only [execOp, ha.ev hx, Instr.loadAt, Instr.sureAddr, Sem.run_bind, Sem.run_pure, Result.andThen_ok, run_loadVar_one (hc q _ (cellN_eq (hv p)))]
end ex
/-- Of elements that their cells tell: one cell; several. -/
theorem Y_load_n {x : Operand} {t : TypeId} {b o j q : Nat} {u : α} {v : Value} {f : α → List Value} [hf : RepF R f] [ht : TyAgg P t false] (hx : ev E x = some (.pointer (some ⟨b, o + j * R.sz + q, none⟩))) (hk : SlN L R (some ⟨b, o, none⟩) c xs) (hu : xs[j]? = some u) (hv : cellN (f u) q = some v) : Yl P E L (.load t x) ty v := fun n D W a w dst pos af gd ha hs => by
  obtain ⟨l, hl, hs1, hc⟩ := elem_n hk hu hs
  obtain ⟨M, k, _, _, _, h1, h2, _, _, _, hi, _⟩ := hs1.ex
  rw [hf.e _ _ _ hi] at hc
  simp only [execOp, ha.ev hx, Instr.loadAt, Instr.sureAddr, Sem.run_bind, Sem.run_pure, Result.andThen_ok, run_loadVar_one (hc q _ (cellN_eq hv))]
theorem Y_load_naf {x : Operand} {t : TypeId} {b o j q m : Nat} {u : α} {vs : List Value} {f : α → List Value} [hf : RepF R f] [ht : TyAgg P t true] [hz : TySize P t m] (hx : ev E x = some (.pointer (some ⟨b, o + j * R.sz + q, none⟩))) (hk : SlN L R (some ⟨b, o, none⟩) c xs) (hu : xs[j]? = some u) (hv : cutN q m (f u) = some vs) : Yl P E L (.load t x) ty (.agg vs.toArray) := fun n D W a w dst pos af gd ha hs => by
  obtain ⟨l, hl, hs1, hc⟩ := elem_n hk hu hs
  obtain ⟨M, k, _, _, _, h1, h2, _, _, _, hi, _⟩ := hs1.ex
  rw [hf.e _ _ _ hi] at hc
  simp only [execOp, ha.ev hx, Instr.loadAt, Instr.sureAddr, Sem.run_bind, Sem.run_pure, Result.andThen_ok, run_load_at hc hv]
/-- What an element's word says plainly. -/
theorem T_elem_fact {p : Prop} {c' : Code} {j : Nat} {u : α} (hk : SlN L R A c xs) (hu : xs[j]? = some u) (hp : ∀ M l, R.rep M u l → p) (h : p → T r n P c' ⟨D, E, L⟩ Q) : T r n P c' ⟨D, E, L⟩ Q := fun W a w hh => by
  obtain ⟨M, q, hd', hM, hq, hsep⟩ := hh.2.ex
  rcases (hk M q (heapOf w) hd' hsep hM hq).2.2 with e | ⟨b, o, e, cs, t, fr, hb, hall⟩
  · rw [e] at hu; simp at hu
  · obtain ⟨l, hl, _⟩ := hall j u hu
    exact h (hp M l hl) W a w hh
theorem SlN.take (h : SlN L R A c xs) (j : Nat) : SlN L R A c (xs.take j) := fun M k N hd hs hM hk => by
  obtain ⟨a, b, e⟩ := h M k N hd hs hM hk
  refine ⟨by rw [List.length_take]; omega, by rw [List.length_take]; omega, ?_⟩
  rcases e with e | ⟨b, o, e, cs, t, fr, hb, hall⟩
  · left; simp [e]
  · right
    refine ⟨b, o, e, cs, t, fr, hb, fun i x hi => hall i x ?_⟩
    rw [List.getElem?_take] at hi
    split at hi
    · exact hi
    · cases hi
theorem SlN.cut (h : SlN L R A c xs) (i j cap : Nat) (hij : i ≤ j) (hj : j ≤ xs.length) (hcap : j ≤ cap) : SlN L R (cutA A i cap R.sz) (cap - i) ((xs.take j).drop i) := fun M k N hd hs hM hk => by
  obtain ⟨a, b, e⟩ := h M k N hd hs hM hk
  have hlen : ((xs.take j).drop i).length = j - i := by simp; omega
  refine ⟨by rw [hlen]; omega, by rw [hlen]; omega, ?_⟩
  by_cases hij' : i = j
  · left; apply List.eq_nil_of_length_eq_zero; omega
  · rcases e with e | ⟨b, o, rfl, cs, t, fr, hb, hall⟩
    · subst e; left; simp
    · right
      refine ⟨b, o + i * R.sz, ?_, cs, t, fr, hb, fun k x hk => ?_⟩
      · unfold cutA; rw [if_neg (by omega)]; simp [Addr.add_plain]
      · rw [List.getElem?_drop, List.getElem?_take] at hk
        split at hk
        · obtain ⟨l, hl, hc⟩ := hall _ _ hk
          refine ⟨l, hl, fun q v hq => ?_⟩
          have := hc q v hq
          rwa [Nat.add_mul, ← Nat.add_assoc] at this
        · cases hk
theorem SlN.drop (h : SlN L R A c xs) {i : Nat} (hi : i ≤ xs.length) {W w : World} (hs : Sat W w L) : SlN L R (cutA A i c R.sz) (c - i) (xs.drop i) := by
  have h1 := h.len hs
  have := h.cut i xs.length c hi (Nat.le_refl _) h1.1
  rwa [List.take_length] at this
end
end Go.SL
set_option linter.unusedVariables false
set_option linter.unusedSimpArgs false
namespace Go.SL
open Go Go.Proofs
instance : DecidableEq OrderD := fun a b => decidable_of_iff (a.token = b.token ∧ a.cart = b.cart ∧ a.epoch = b.epoch ∧ a.cut = b.cut) (by cases a; cases b; simp)
instance : DecidableEq EntryD := fun a b => decidable_of_iff (a.noop = b.noop ∧ a.order = b.order) (by cases a; cases b; simp)
instance : DecidableEq VotedD := fun a b => decidable_of_iff (a.slot = b.slot ∧ a.bal = b.bal ∧ a.en = b.en) (by cases a; cases b; simp)
instance : DecidableEq EventD := fun a b => decidable_of_iff (a.dot = b.dot ∧ a.deps = b.deps ∧ a.cart = b.cart ∧ a.epoch = b.epoch ∧ a.sku = b.sku ∧ a.qty = b.qty ∧ a.clears = b.clears) (by cases a; cases b; simp)
theorem take_step {xs ys : List Int} {i : Nat} {x y : Int} (h : xs.take i = ys.take i) (hx : xs[i]? = some x) (hy : ys[i]? = some y) (e : x = y) : xs.take (i + 1) = ys.take (i + 1) := by
  rw [List.take_add_one, List.take_add_one, h, hx, hy, e]
theorem take_all {α : Type} {xs ys : List α} {i : Nat} (h : xs.take i = ys.take i) (h1 : xs.length ≤ i) (h2 : ys.length ≤ i) : xs = ys := by
  rwa [List.take_of_length_le h1, List.take_of_length_le h2] at h
theorem sameVector_spec {L : List HP} {A B : Option Addr} {c d : Nat} {xs ys : List Int} (hk : SlN L (intR .i64) A c xs) (hk2 : SlN L (intR .i64) B d ys) : Fn Try.prog 67 #[.slice A xs.length c, .slice B ys.length d] L (fun v L' => v = .bool (decide (xs = ys)) ∧ L' = L) := by
  refine Fn_enter Try.func67 rfl rfl rfl rfl ?_
  refine hk.lens fun hl => ?_
  simp only [maxEl] at hl
  refine T_region ?_
  refine TL_y rfl rfl (Y_assign rfl) ?_
  refine TL_nil ?_
  refine T_seq ?_
  refine T_region ?_
  refine TL_y rfl rfl (Y_move rfl) ?_
  refine TL_y rfl rfl (Y_len rfl) ?_
  refine TL_y rfl rfl (Y_move rfl) ?_
  refine TL_y rfl rfl (Y_len rfl) ?_
  refine TL_y rfl rfl (Y_ne rfl rfl) ?_
  refine TL_nil ?_
  refine T_if rfl (fun h10 => ?_) (fun h10 => ?_)
  · refine T_region ?_
    refine TL_y rfl rfl (Y_assign rfl) ?_
    refine TL_nil ?_
    refine T_ret ?_
    refine thenS_ret ?_
    exact RetG_1 (.inl rfl) rfl (ResV.tmp rfl) GivesTo.g (⟨by rw [decide_eq_false]; rintro rfl; exact h10 rfl, rfl⟩)
  · refine T_skip ?_
    refine thenS_normal ?_
    refine T_seq ?_
    refine T_region ?_
    refine TL_y rfl rfl (Y_assign rfl) ?_
    refine TL_nil ?_
    refine T_block ?_
    refine T_loopK (σ := Nat) [0, 1] (fun i => i ≤ xs.length ∧ xs.take i = ys.take i) (fun i kv => (5, .int .i64 (i : Int)) :: kv) (fun i => L) (fun i => xs.length - i) (0) rfl (⟨Nat.zero_le _, rfl⟩) (GivesTo.g) (sub_cons rfl (sub_cons rfl (sub_cons rfl (sub_nil)))) ?_
    intro i hi
    refine T_seq ?_
    refine T_region ?_
    refine TL_y rfl rfl (Y_move rfl) ?_
    refine TL_y rfl rfl (Y_move rfl) ?_
    refine TL_y rfl rfl (Y_len rfl) ?_
    refine TL_y rfl rfl (Y_lt rfl rfl) ?_
    refine TL_nil ?_
    refine T_if rfl (fun h14 => ?_) (fun h14 => ?_)
    · refine T_skip ?_
      refine thenS_normal ?_
      refine T_seq ?_
      refine T_block ?_
      have hx := List.getElem?_eq_getElem (show i < xs.length by omega)
      have hy := List.getElem?_eq_getElem (show i < ys.length by omega)
      refine T_addr_n hk hx fun b1 o1 e1 => ?_
      refine T_addr_n hk2 hy fun b2 o2 e2 => ?_
      subst e1
      subst e2
      refine T_region_draw _ [0, 0, 3, 7, 0, 0, 48, 112, 255] [] [(0, true), (1, true), (2, true), (3, true), (4, true), (5, true), (6, true), (7, true), (8, true)] (by kernel_rfl) (by decide +kernel) (Gives.refl _) ?_
      refine TF_y rfl rfl (Y_move rfl) ?_
      refine TF_y rfl rfl (Y_move rfl) ?_
      refine TF_y rfl rfl (Y_index_n (R := intR .i64) (xs := xs) rfl rfl rfl hx) ?_
      refine TF_y rfl rfl (Y_load_n (q := 0) rfl hk hx rfl) ?_
      refine TF_y rfl rfl (Y_move rfl) ?_
      refine TF_y rfl rfl (Y_move rfl) ?_
      refine TF_y rfl rfl (Y_index_n (R := intR .i64) (xs := ys) rfl rfl rfl hy) ?_
      refine TF_y rfl rfl (Y_load_n (q := 0) rfl hk2 hy rfl) ?_
      refine TF_y rfl rfl (Y_ne rfl rfl) ?_
      refine TF_nil ?_
      refine T_if rfl (fun h25 => ?_) (fun h25 => ?_)
      · refine T_region ?_
        refine TL_y rfl rfl (Y_assign rfl) ?_
        refine TL_nil ?_
        refine T_ret ?_
        refine inB_ret ?_
        refine thenS_ret ?_
        refine thenS_ret ?_
        refine inB_ret ?_
        refine thenS_ret ?_
        exact RetG_1 (.inl rfl) rfl (ResV.tmp rfl) GivesTo.g (⟨by rw [decide_eq_false]; rintro rfl; exact h25 rfl, rfl⟩)
      · refine T_skip ?_
        refine inB_normal ?_
        refine thenS_normal ?_
        refine T_region_last ?_
        refine TL_y rfl rfl (Y_move rfl) ?_
        refine TL_y rfl rfl (Y_add rfl rfl (by omega)) ?_
        refine TL_name 16 (v' := .int .i64 ((i + 1 : Nat) : Int)) rfl (by simp) ?_
        refine TL_y rfl rfl (Y_assign rfl) ?_
        refine TL_nil ?_
        refine thenS_normal ?_
        exact ⟨i + 1, ⟨by omega, take_step hi.2 hx hy (Classical.not_not.1 h25)⟩, by omega, holds_to (sub_cons rfl (sub_cons rfl (sub_cons rfl (sub_nil)))) GivesTo.g⟩
    · refine T_exit ?_
      refine thenS_exit ?_
      refine thenS_exit ?_
      refine inB_hit ?_
      refine thenS_normal ?_
      refine T_region ?_
      refine TL_y rfl rfl (Y_assign rfl) ?_
      refine TL_nil ?_
      refine T_ret ?_
      exact RetG_1 (.inl rfl) rfl (ResV.tmp rfl) GivesTo.g (⟨by rw [decide_eq_true (take_all hi.2 (by omega) (by omega))], rfl⟩)
end Go.SL
set_option linter.unusedVariables false
set_option linter.unusedSimpArgs false
namespace Go.SL
open Go Go.Proofs
abbrev pairV (a : Int × Int) : Value := .agg (List.toArray [.int .i64 a.1, .int .i64 a.2])
section
variable {E : Env} {L : List HP} {ty : TypeId}
end
theorem dot_guard : Try.prog.eqGuardType Try.prog.depth 26 = false := by kernel_rfl
theorem dot_held : Try.prog.stoodInHeld 26 = false := by kernel_rfl
theorem dot_eq (dd : Nat) (w : World) (a b : Int × Int) : (Op.equalIn (dd + 2) 26 (pairV a) (pairV b)).run Try.prog w = .ok (decide (a = b)) w := by
  have hn : ∀ x y, (Op.equalIn (dd + 1) 3 (.int .i64 x) (.int .i64 y)).run Try.prog w = .ok (decide (x = y)) w := fun x y => EqIs.int (k := .i64) dd w
  generalize hdd : dd + 1 = d1 at hn
  have : dd + 2 = d1 + 1 := by omega
  rw [this]
  simp [Op.equalIn, Try.runUnderlying26, dot_held, part, Try.isAgg3, hn]
  by_cases h1 : a.1 = b.1 <;> by_cases h2 : a.2 = b.2 <;> simp [h1, h2, Prod.ext_iff]
section
variable {E : Env} {L : List HP} {ty : TypeId}
theorem dot_eq' (w : World) (a b : Int × Int) : (Op.equal 26 (pairV a) (pairV b)).run Try.prog w = .ok (decide (a = b)) w := dot_eq 9998 w a b
theorem Y_eq_dot {x y : Operand} {t' : TypeId} {a b : Int × Int} (hx : ev E x = some (pairV a)) (hy : ev E y = some (pairV b)) : Yl Try.prog E L (.binOp .eql 26 x y t') ty (.bool (decide (a = b))) := fun n D W ac w dst pos af g hv hs => by
  have h3 : ∀ xs ys : Array Value, Go.binOp .eql 26 (.agg xs) (.agg ys) = (do Pure.pure (Value.bool (← Op.equal 26 (.agg xs) (.agg ys))) : Sem Value) := fun xs ys => by simp only [Go.binOp]
  simp only [execOp, hv.ev hx, hv.ev hy, eqGuard, h3]
  simp [dot_guard, dot_eq']
end
end Go.SL
set_option linter.unusedVariables false
set_option linter.unusedSimpArgs false
namespace Go.SL
open Go Go.Proofs
theorem event_eq {a b : EventD} : a = b ↔ a.dot = b.dot ∧ a.deps = b.deps ∧ a.cart = b.cart ∧ a.epoch = b.epoch ∧ a.sku = b.sku ∧ a.qty = b.qty ∧ a.clears = b.clears := by cases a; cases b; simp
theorem msg_eq {a b : MsgD} : a = b ↔ a.kind = b.kind ∧ a.frm = b.frm ∧ a.to_ = b.to_ ∧ a.bal = b.bal ∧ a.slot = b.slot ∧ a.en = b.en ∧ a.voted = b.voted ∧ a.seen = b.seen ∧ a.events = b.events ∧ a.time = b.time := by cases a; cases b; simp
instance : DecidableEq MsgD := fun a b => decidable_of_iff _ msg_eq.symm
theorem sameEvent_spec {L : List HP} {A B : Option Addr} {c d : Nat} (a b : EventD) (hk : SlN L (intR .i64) A c a.deps) (hk2 : SlN L (intR .i64) B d b.deps) : Fn Try.prog 37 #[.agg (List.toArray (eventC a (A, c))), .agg (List.toArray (eventC b (B, d)))] L (fun v L' => v = .bool (decide (a = b)) ∧ L' = L) := by
  refine Fn_enter Try.func37 rfl rfl rfl rfl ?_
  refine T_region ?_
  refine TL_box rfl rfl rfl ?_
  intro b2
  refine TL_box rfl rfl rfl ?_
  intro b3
  refine TL_y rfl rfl (Y_assign rfl) ?_
  refine TL_nil ?_
  refine T_region ?_
  refine TL_y rfl rfl (Y_field_addr rfl) ?_
  refine TL_y rfl rfl (Y_load_agg rfl rfl) ?_
  refine TL_y rfl rfl (Y_field_addr rfl) ?_
  refine TL_y rfl rfl (Y_load_agg rfl rfl) ?_
  refine TL_both 43 51 (a = b) ?_ ?_
  · refine TL_y rfl rfl (Y_eq_dot (a := a.dot) (b := b.dot) rfl rfl) ?_
    refine TL_y rfl rfl (Y_move rfl) ?_
    refine TL_splitd 10 rfl (fun h10 => ?_) (fun h10 => ?_)
    · refine TL_grun rfl rfl ?_
      refine TL_y rfl rfl (Y_field_addr rfl) ?_
      refine TL_grun rfl rfl ?_
      refine TL_y rfl rfl (Y_load rfl rfl) ?_
      refine TL_grun rfl rfl ?_
      refine TL_y rfl rfl (Y_field_addr rfl) ?_
      refine TL_grun rfl rfl ?_
      refine TL_y rfl rfl (Y_load rfl rfl) ?_
      refine TL_grun rfl rfl ?_
      refine TL_call rfl rfl (sameVector_spec hk.tail.tail hk2.tail.tail) ?_
      rintro _ _ ⟨rfl, rfl⟩
      refine TL_y rfl rfl (Y_pick_t rfl rfl) ?_
      refine TL_y rfl rfl (Y_move rfl) ?_
      refine TL_splitd 17 rfl (fun h17 => ?_) (fun h17 => ?_)
      · refine TL_grun rfl rfl ?_
        refine TL_y rfl rfl (Y_field_addr rfl) ?_
        refine TL_grun rfl rfl ?_
        refine TL_y rfl rfl (Y_load rfl rfl) ?_
        refine TL_grun rfl rfl ?_
        refine TL_y rfl rfl (Y_field_addr rfl) ?_
        refine TL_grun rfl rfl ?_
        refine TL_y rfl rfl (Y_load rfl rfl) ?_
        refine TL_grun rfl rfl ?_
        refine TL_y rfl rfl (Y_str_eq rfl rfl) ?_
        refine TL_y rfl rfl (Y_pick_t rfl rfl) ?_
        refine TL_y rfl rfl (Y_move rfl) ?_
        refine TL_splitd 24 rfl (fun h24 => ?_) (fun h24 => ?_)
        · refine TL_grun rfl rfl ?_
          refine TL_y rfl rfl (Y_field_addr rfl) ?_
          refine TL_grun rfl rfl ?_
          refine TL_y rfl rfl (Y_load rfl rfl) ?_
          refine TL_grun rfl rfl ?_
          refine TL_y rfl rfl (Y_field_addr rfl) ?_
          refine TL_grun rfl rfl ?_
          refine TL_y rfl rfl (Y_load rfl rfl) ?_
          refine TL_grun rfl rfl ?_
          refine TL_y rfl rfl (Y_eq rfl rfl) ?_
          refine TL_y rfl rfl (Y_pick_t rfl rfl) ?_
          refine TL_y rfl rfl (Y_move rfl) ?_
          refine TL_splitd 31 rfl (fun h31 => ?_) (fun h31 => ?_)
          · refine TL_grun rfl rfl ?_
            refine TL_y rfl rfl (Y_field_addr rfl) ?_
            refine TL_grun rfl rfl ?_
            refine TL_y rfl rfl (Y_load rfl rfl) ?_
            refine TL_grun rfl rfl ?_
            refine TL_y rfl rfl (Y_field_addr rfl) ?_
            refine TL_grun rfl rfl ?_
            refine TL_y rfl rfl (Y_load rfl rfl) ?_
            refine TL_grun rfl rfl ?_
            refine TL_y rfl rfl (Y_str_eq rfl rfl) ?_
            refine TL_y rfl rfl (Y_pick_t rfl rfl) ?_
            refine TL_y rfl rfl (Y_move rfl) ?_
            refine TL_splitd 38 rfl (fun h38 => ?_) (fun h38 => ?_)
            · refine TL_grun rfl rfl ?_
              refine TL_y rfl rfl (Y_field_addr rfl) ?_
              refine TL_grun rfl rfl ?_
              refine TL_y rfl rfl (Y_load rfl rfl) ?_
              refine TL_grun rfl rfl ?_
              refine TL_y rfl rfl (Y_field_addr rfl) ?_
              refine TL_grun rfl rfl ?_
              refine TL_y rfl rfl (Y_load rfl rfl) ?_
              refine TL_grun rfl rfl ?_
              refine TL_y rfl rfl (Y_eq rfl rfl) ?_
              refine TL_y rfl rfl (Y_pick_t rfl rfl) ?_
              refine TL_y rfl rfl (Y_move rfl) ?_
              refine TL_splitd 45 rfl (fun h45 => ?_) (fun h45 => ?_)
              · refine TL_grun rfl rfl ?_
                refine TL_y rfl rfl (Y_field_addr rfl) ?_
                refine TL_grun rfl rfl ?_
                refine TL_y rfl rfl (Y_load rfl rfl) ?_
                refine TL_grun rfl rfl ?_
                refine TL_y rfl rfl (Y_field_addr rfl) ?_
                refine TL_grun rfl rfl ?_
                refine TL_y rfl rfl (Y_load rfl rfl) ?_
                refine TL_grun rfl rfl ?_
                refine TL_y rfl rfl (Y_equal rfl rfl (EqIs.bool)) ?_
                refine TL_name 50 (v' := .bool (decide (a.clears = b.clears))) rfl (congrArg Value.bool (by cases a.clears <;> cases b.clears <;> rfl)) ?_
                refine TL_y rfl rfl (Y_pick_t rfl rfl) ?_
                refine TL_chain_end rfl ?_ (by repeat (first | exact sub_refl | refine sub_ext rfl ?_)) GivesTo.g
                exact congrArg Value.bool (decide_eq_decide.2 (by simp [event_eq, *]))
              · refine TL_gskip rfl rfl rfl rfl ?_
                refine TL_gskip rfl rfl rfl rfl ?_
                refine TL_gskip rfl rfl rfl rfl ?_
                refine TL_gskip rfl rfl rfl rfl ?_
                refine TL_gskip rfl rfl rfl rfl ?_
                refine TL_y rfl rfl (Y_pick_f rfl rfl) ?_
                refine TL_chain_end rfl ?_ (by repeat (first | exact sub_refl | refine sub_ext rfl ?_)) GivesTo.g
                exact congrArg Value.bool (decide_eq_false (by simp [event_eq, *])).symm
            · refine TL_gskip rfl rfl rfl rfl ?_
              refine TL_gskip rfl rfl rfl rfl ?_
              refine TL_gskip rfl rfl rfl rfl ?_
              refine TL_gskip rfl rfl rfl rfl ?_
              refine TL_gskip rfl rfl rfl rfl ?_
              refine TL_y rfl rfl (Y_pick_f rfl rfl) ?_
              refine TL_y rfl rfl (Y_move rfl) ?_
              refine TL_gskip rfl rfl rfl rfl ?_
              refine TL_gskip rfl rfl rfl rfl ?_
              refine TL_gskip rfl rfl rfl rfl ?_
              refine TL_gskip rfl rfl rfl rfl ?_
              refine TL_gskip rfl rfl rfl rfl ?_
              refine TL_y rfl rfl (Y_pick_f rfl rfl) ?_
              refine TL_chain_end rfl ?_ (by repeat (first | exact sub_refl | refine sub_ext rfl ?_)) GivesTo.g
              exact congrArg Value.bool (decide_eq_false (by simp [event_eq, *])).symm
          · refine TL_gskip rfl rfl rfl rfl ?_
            refine TL_gskip rfl rfl rfl rfl ?_
            refine TL_gskip rfl rfl rfl rfl ?_
            refine TL_gskip rfl rfl rfl rfl ?_
            refine TL_gskip rfl rfl rfl rfl ?_
            refine TL_y rfl rfl (Y_pick_f rfl rfl) ?_
            refine TL_y rfl rfl (Y_move rfl) ?_
            refine TL_gskip rfl rfl rfl rfl ?_
            refine TL_gskip rfl rfl rfl rfl ?_
            refine TL_gskip rfl rfl rfl rfl ?_
            refine TL_gskip rfl rfl rfl rfl ?_
            refine TL_gskip rfl rfl rfl rfl ?_
            refine TL_y rfl rfl (Y_pick_f rfl rfl) ?_
            refine TL_y rfl rfl (Y_move rfl) ?_
            refine TL_gskip rfl rfl rfl rfl ?_
            refine TL_gskip rfl rfl rfl rfl ?_
            refine TL_gskip rfl rfl rfl rfl ?_
            refine TL_gskip rfl rfl rfl rfl ?_
            refine TL_gskip rfl rfl rfl rfl ?_
            refine TL_y rfl rfl (Y_pick_f rfl rfl) ?_
            refine TL_chain_end rfl ?_ (by repeat (first | exact sub_refl | refine sub_ext rfl ?_)) GivesTo.g
            exact congrArg Value.bool (decide_eq_false (by simp [event_eq, *])).symm
        · refine TL_gskip rfl rfl rfl rfl ?_
          refine TL_gskip rfl rfl rfl rfl ?_
          refine TL_gskip rfl rfl rfl rfl ?_
          refine TL_gskip rfl rfl rfl rfl ?_
          refine TL_gskip rfl rfl rfl rfl ?_
          refine TL_y rfl rfl (Y_pick_f rfl rfl) ?_
          refine TL_y rfl rfl (Y_move rfl) ?_
          refine TL_gskip rfl rfl rfl rfl ?_
          refine TL_gskip rfl rfl rfl rfl ?_
          refine TL_gskip rfl rfl rfl rfl ?_
          refine TL_gskip rfl rfl rfl rfl ?_
          refine TL_gskip rfl rfl rfl rfl ?_
          refine TL_y rfl rfl (Y_pick_f rfl rfl) ?_
          refine TL_y rfl rfl (Y_move rfl) ?_
          refine TL_gskip rfl rfl rfl rfl ?_
          refine TL_gskip rfl rfl rfl rfl ?_
          refine TL_gskip rfl rfl rfl rfl ?_
          refine TL_gskip rfl rfl rfl rfl ?_
          refine TL_gskip rfl rfl rfl rfl ?_
          refine TL_y rfl rfl (Y_pick_f rfl rfl) ?_
          refine TL_y rfl rfl (Y_move rfl) ?_
          refine TL_gskip rfl rfl rfl rfl ?_
          refine TL_gskip rfl rfl rfl rfl ?_
          refine TL_gskip rfl rfl rfl rfl ?_
          refine TL_gskip rfl rfl rfl rfl ?_
          refine TL_gskip rfl rfl rfl rfl ?_
          refine TL_y rfl rfl (Y_pick_f rfl rfl) ?_
          refine TL_chain_end rfl ?_ (by repeat (first | exact sub_refl | refine sub_ext rfl ?_)) GivesTo.g
          exact congrArg Value.bool (decide_eq_false (by simp [event_eq, *])).symm
      · refine TL_gskip rfl rfl rfl rfl ?_
        refine TL_gskip rfl rfl rfl rfl ?_
        refine TL_gskip rfl rfl rfl rfl ?_
        refine TL_gskip rfl rfl rfl rfl ?_
        refine TL_gskip rfl rfl rfl rfl ?_
        refine TL_y rfl rfl (Y_pick_f rfl rfl) ?_
        refine TL_y rfl rfl (Y_move rfl) ?_
        refine TL_gskip rfl rfl rfl rfl ?_
        refine TL_gskip rfl rfl rfl rfl ?_
        refine TL_gskip rfl rfl rfl rfl ?_
        refine TL_gskip rfl rfl rfl rfl ?_
        refine TL_gskip rfl rfl rfl rfl ?_
        refine TL_y rfl rfl (Y_pick_f rfl rfl) ?_
        refine TL_y rfl rfl (Y_move rfl) ?_
        refine TL_gskip rfl rfl rfl rfl ?_
        refine TL_gskip rfl rfl rfl rfl ?_
        refine TL_gskip rfl rfl rfl rfl ?_
        refine TL_gskip rfl rfl rfl rfl ?_
        refine TL_gskip rfl rfl rfl rfl ?_
        refine TL_y rfl rfl (Y_pick_f rfl rfl) ?_
        refine TL_y rfl rfl (Y_move rfl) ?_
        refine TL_gskip rfl rfl rfl rfl ?_
        refine TL_gskip rfl rfl rfl rfl ?_
        refine TL_gskip rfl rfl rfl rfl ?_
        refine TL_gskip rfl rfl rfl rfl ?_
        refine TL_gskip rfl rfl rfl rfl ?_
        refine TL_y rfl rfl (Y_pick_f rfl rfl) ?_
        refine TL_y rfl rfl (Y_move rfl) ?_
        refine TL_gskip rfl rfl rfl rfl ?_
        refine TL_gskip rfl rfl rfl rfl ?_
        refine TL_gskip rfl rfl rfl rfl ?_
        refine TL_gskip rfl rfl rfl rfl ?_
        refine TL_gskip rfl rfl rfl rfl ?_
        refine TL_y rfl rfl (Y_pick_f rfl rfl) ?_
        refine TL_chain_end rfl ?_ (by repeat (first | exact sub_refl | refine sub_ext rfl ?_)) GivesTo.g
        exact congrArg Value.bool (decide_eq_false (by simp [event_eq, *])).symm
    · refine TL_gskip rfl rfl rfl rfl ?_
      refine TL_gskip rfl rfl rfl rfl ?_
      refine TL_gskip rfl rfl rfl rfl ?_
      refine TL_gskip rfl rfl rfl rfl ?_
      refine TL_gskip rfl rfl rfl rfl ?_
      refine TL_y rfl rfl (Y_pick_f rfl rfl) ?_
      refine TL_y rfl rfl (Y_move rfl) ?_
      refine TL_gskip rfl rfl rfl rfl ?_
      refine TL_gskip rfl rfl rfl rfl ?_
      refine TL_gskip rfl rfl rfl rfl ?_
      refine TL_gskip rfl rfl rfl rfl ?_
      refine TL_gskip rfl rfl rfl rfl ?_
      refine TL_y rfl rfl (Y_pick_f rfl rfl) ?_
      refine TL_y rfl rfl (Y_move rfl) ?_
      refine TL_gskip rfl rfl rfl rfl ?_
      refine TL_gskip rfl rfl rfl rfl ?_
      refine TL_gskip rfl rfl rfl rfl ?_
      refine TL_gskip rfl rfl rfl rfl ?_
      refine TL_gskip rfl rfl rfl rfl ?_
      refine TL_y rfl rfl (Y_pick_f rfl rfl) ?_
      refine TL_y rfl rfl (Y_move rfl) ?_
      refine TL_gskip rfl rfl rfl rfl ?_
      refine TL_gskip rfl rfl rfl rfl ?_
      refine TL_gskip rfl rfl rfl rfl ?_
      refine TL_gskip rfl rfl rfl rfl ?_
      refine TL_gskip rfl rfl rfl rfl ?_
      refine TL_y rfl rfl (Y_pick_f rfl rfl) ?_
      refine TL_y rfl rfl (Y_move rfl) ?_
      refine TL_gskip rfl rfl rfl rfl ?_
      refine TL_gskip rfl rfl rfl rfl ?_
      refine TL_gskip rfl rfl rfl rfl ?_
      refine TL_gskip rfl rfl rfl rfl ?_
      refine TL_gskip rfl rfl rfl rfl ?_
      refine TL_y rfl rfl (Y_pick_f rfl rfl) ?_
      refine TL_y rfl rfl (Y_move rfl) ?_
      refine TL_gskip rfl rfl rfl rfl ?_
      refine TL_gskip rfl rfl rfl rfl ?_
      refine TL_gskip rfl rfl rfl rfl ?_
      refine TL_gskip rfl rfl rfl rfl ?_
      refine TL_gskip rfl rfl rfl rfl ?_
      refine TL_y rfl rfl (Y_pick_f rfl rfl) ?_
      refine TL_chain_end rfl ?_ (by repeat (first | exact sub_refl | refine sub_ext rfl ?_)) GivesTo.g
      exact congrArg Value.bool (decide_eq_false (by simp [event_eq, *])).symm
  refine TL_y rfl rfl (Y_assign rfl) ?_
  refine TL_nil ?_
  refine T_ret ?_
  exact RetG_1 (.inl rfl) rfl (ResV.tmp rfl) GivesTo.g (⟨rfl, rfl⟩)
theorem sameEvents_spec {L : List HP} {A B : Option Addr} {c d : Nat} {xs ys : List EventD} (hk : SlK L eventR A c xs) (hk2 : SlK L eventR B d ys) : Fn Try.prog 34 #[.slice A xs.length c, .slice B ys.length d] L (fun v L' => v = .bool (decide (xs = ys)) ∧ L' = L) := by
  refine Fn_enter Try.func34 rfl rfl rfl rfl ?_
  refine hk.lens fun hl => ?_
  simp only [maxEl] at hl
  refine T_region ?_
  refine TL_y rfl rfl (Y_assign rfl) ?_
  refine TL_nil ?_
  refine T_seq ?_
  refine T_region ?_
  refine TL_y rfl rfl (Y_move rfl) ?_
  refine TL_y rfl rfl (Y_len rfl) ?_
  refine TL_y rfl rfl (Y_move rfl) ?_
  refine TL_y rfl rfl (Y_len rfl) ?_
  refine TL_y rfl rfl (Y_ne rfl rfl) ?_
  refine TL_nil ?_
  refine T_if rfl (fun h10 => ?_) (fun h10 => ?_)
  · refine T_region ?_
    refine TL_y rfl rfl (Y_assign rfl) ?_
    refine TL_nil ?_
    refine T_ret ?_
    refine thenS_ret ?_
    exact RetG_1 (.inl rfl) rfl (ResV.tmp rfl) GivesTo.g (⟨by rw [decide_eq_false]; rintro rfl; exact h10 rfl, rfl⟩)
  · refine T_skip ?_
    refine thenS_normal ?_
    refine T_seq ?_
    refine T_region ?_
    refine TL_y rfl rfl (Y_assign rfl) ?_
    refine TL_nil ?_
    refine T_block ?_
    refine T_loopK (σ := Nat) [0, 1] (fun i => i ≤ xs.length ∧ xs.take i = ys.take i) (fun i kv => (5, .int .i64 (i : Int)) :: kv) (fun i => L) (fun i => xs.length - i) (0) rfl (⟨Nat.zero_le _, rfl⟩) (GivesTo.g) (sub_cons rfl (sub_cons rfl (sub_cons rfl (sub_nil)))) ?_
    intro i hi
    refine T_seq ?_
    refine T_region ?_
    refine TL_y rfl rfl (Y_move rfl) ?_
    refine TL_y rfl rfl (Y_move rfl) ?_
    refine TL_y rfl rfl (Y_len rfl) ?_
    refine TL_y rfl rfl (Y_lt rfl rfl) ?_
    refine TL_nil ?_
    refine T_if rfl (fun h14 => ?_) (fun h14 => ?_)
    · refine T_skip ?_
      refine thenS_normal ?_
      refine T_seq ?_
      refine T_block ?_
      obtain ⟨x, hx⟩ : ∃ x, xs[i]? = some x := ⟨_, List.getElem?_eq_getElem (by omega)⟩
      obtain ⟨y, hy⟩ : ∃ y, ys[i]? = some y := ⟨_, List.getElem?_eq_getElem (by omega)⟩
      refine T_at hk hx fun b1 o1 l1 ha1 => ?_
      refine T_ex fun p1 ok1 => ?_
      simp only [List.cons_append, List.nil_append]
      refine T_at hk2.tail.tail hy fun b2 o2 l2 ha2 => ?_
      refine T_ex fun p2 ok2 => ?_
      simp only [List.cons_append, List.nil_append]
      refine T_region_draw _ [0, 0, 3, 7, 0, 0, 48, 112, 255, 511] [] [(0, true), (1, true), (2, true), (3, true), (4, true), (5, true), (6, true), (7, true), (8, false), (9, true)] (by kernel_rfl) (by decide +kernel) (Gives.refl _) ?_
      refine TF_y rfl rfl (Y_move rfl) ?_
      refine TF_y rfl rfl (Y_move rfl) ?_
      refine TF_y rfl rfl (Y_index_at rfl rfl (by omega) ha1) ?_
      refine TF_y rfl rfl (Y_load_row_agg (vs := eventC x p1) rfl rfl) ?_
      refine TF_y rfl rfl (Y_move rfl) ?_
      refine TF_y rfl rfl (Y_move rfl) ?_
      refine TF_y rfl rfl (Y_index_at rfl rfl (by omega) ha2) ?_
      refine TF_y rfl rfl (Y_load_row_agg (vs := eventC y p2) rfl rfl) ?_
      refine TF_anchor rfl ?_
      refine TL_call rfl rfl (sameEvent_spec x y sln sln) ?_
      rintro _ _ ⟨rfl, rfl⟩
      refine TF_end GivesTo.g ?_
      refine TF_y rfl rfl (Y_not_d rfl) ?_
      refine TF_nil ?_
      refine T_if rfl (fun h26 => ?_) (fun h26 => ?_)
      · refine T_region ?_
        refine TL_y rfl rfl (Y_assign rfl) ?_
        refine TL_nil ?_
        refine T_ret ?_
        refine inB_ret ?_
        refine thenS_ret ?_
        refine thenS_ret ?_
        refine inB_ret ?_
        refine thenS_ret ?_
        exact RetG_1 (.inl rfl) rfl (ResV.tmp rfl) GivesTo.g (⟨by rw [decide_eq_false]; rintro rfl; rw [hx] at hy; cases hy; exact h26 rfl, rfl⟩)
      · refine T_skip ?_
        refine inB_normal ?_
        refine thenS_normal ?_
        refine T_region_last ?_
        refine TL_y rfl rfl (Y_move rfl) ?_
        refine TL_y rfl rfl (Y_add rfl rfl (by omega)) ?_
        refine TL_name 16 (v' := .int .i64 ((i + 1 : Nat) : Int)) rfl (by simp) ?_
        refine TL_y rfl rfl (Y_assign rfl) ?_
        refine TL_nil ?_
        refine thenS_normal ?_
        exact ⟨i + 1, ⟨by omega, by rw [List.take_add_one, List.take_add_one, hi.2, hx, hy, Classical.not_not.1 h26]⟩, by omega, holds_to (sub_cons rfl (sub_cons rfl (sub_cons rfl (sub_nil)))) GivesTo.g⟩
    · refine T_exit ?_
      refine thenS_exit ?_
      refine thenS_exit ?_
      refine inB_hit ?_
      refine thenS_normal ?_
      refine T_region ?_
      refine TL_y rfl rfl (Y_assign rfl) ?_
      refine TL_nil ?_
      refine T_ret ?_
      exact RetG_1 (.inl rfl) rfl (ResV.tmp rfl) GivesTo.g (⟨by rw [decide_eq_true (take_all hi.2 (by omega) (by omega))], rfl⟩)
end Go.SL
set_option linter.unusedVariables false
namespace Go.SL
section
variable {α : Type} {p : α → Bool} {l : List α} {x : α}
/-- How many of the first items p holds of. -/
def posW (p : α → Bool) : List α → Nat
  | [] => 0
  | x :: r => if p x then posW p r + 1 else 0
def insW (p : α → Bool) (x : α) (l : List α) : List α := l.take (posW p l) ++ x :: l.drop (posW p l)
theorem posW_take : ∀ l : List α, ∀ q ∈ l.take (posW p l), p q = true
  | [], q, hq => by simp at hq
  | x :: r, q, hq => by
    cases hx : p x with
    | false => simp [posW, hx] at hq
    | true =>
      simp [posW, hx] at hq
      rcases hq with rfl | hq
      · exact hx
      · exact posW_take r q hq
theorem posW_drop {r : α → α → Prop} : ∀ {l : List α}, l.Pairwise r → (∀ a ∈ l, ∀ b ∈ l, r a b → p b = true → p a = true) → ∀ q ∈ l.drop (posW p l), p q = false
  | [], _, _, q, hq => by simp at hq
  | x :: t, hs, hm, q, hq => by
    cases hx : p x with
    | true =>
      simp [posW, hx] at hq
      exact posW_drop (List.pairwise_cons.1 hs).2 (fun a ha b hb => hm a (List.mem_cons_of_mem _ ha) b (List.mem_cons_of_mem _ hb)) q hq
    | false =>
      simp [posW, hx] at hq
      rcases hq with rfl | hq
      · exact hx
      · cases hpq : p q with
        | false => rfl
        | true => rw [hm x List.mem_cons_self q (List.mem_cons_of_mem _ hq) ((List.pairwise_cons.1 hs).1 q hq) hpq] at hx; cases hx
theorem insW_perm (p : α → Bool) (x : α) (l : List α) : (insW p x l).Perm (x :: l) := by
  unfold insW
  refine List.perm_middle.trans (List.Perm.cons _ ?_)
  rw [List.take_append_drop]
theorem insW_len (p : α → Bool) (x : α) (l : List α) : (insW p x l).length = l.length + 1 := (insW_perm p x l).length_eq
theorem mem_insW {q : α} : q ∈ insW p x l ↔ q = x ∨ q ∈ l := by rw [(insW_perm p x l).mem_iff]; simp
theorem insW_sorted {r : α → α → Prop} (hs : l.Pairwise r) (h1 : ∀ q ∈ l, p q = true → r q x) (h2 : ∀ q ∈ l, p q = false → r x q) (hm : ∀ a ∈ l, ∀ b ∈ l, r a b → p b = true → p a = true) : (insW p x l).Pairwise r := by
  unfold insW
  have e := List.take_append_drop (posW p l) l
  have hs' := hs
  rw [← e] at hs'
  obtain ⟨q1, q2, q3⟩ := List.pairwise_append.1 hs'
  refine List.pairwise_append.2 ⟨q1, List.pairwise_cons.2 ⟨fun q hq => h2 q (List.mem_of_mem_drop hq) (posW_drop hs hm q hq), q2⟩, fun a ha b hb => ?_⟩
  rcases List.mem_cons.1 hb with rfl | hb
  · exact h1 a (List.mem_of_mem_take ha) (posW_take l a ha)
  · exact q3 a ha b hb
end
theorem takeStep {α : Type} {xs ys : List α} {i : Nat} {x y : α} (h : xs.take i = ys.take i) (hx : xs[i]? = some x) (hy : ys[i]? = some y) (e : x = y) : xs.take (i + 1) = ys.take (i + 1) := by
  rw [List.take_add_one, List.take_add_one, h, hx, hy, e]
theorem takeAll {α : Type} {xs ys : List α} {i : Nat} (h : xs.take i = ys.take i) (h1 : xs.length ≤ i) (h2 : ys.length ≤ i) : xs = ys := by
  rwa [List.take_of_length_le h1, List.take_of_length_le h2] at h
theorem takeAt {α : Type} {l : List α} {i : Nat} {s : α} (h : l[i]? = some s) : l.take (i + 1) = l.take i ++ [s] := by rw [List.take_add_one, h]; rfl
end Go.SL
set_option linter.unusedVariables false
set_option linter.unusedSectionVars false
namespace Go.SL
open Go
section
variable {P : Program} {f : FuncId} {args : Array Value} {L : List HP}
theorem cells_one' {α : Type} {R : Rep α} {x : α} {l : List Value} {L : List HP} (h : Knows L (fun M => R.rep M x l)) : Knows L (fun M => CellsOf M R [x] l) := h.mono fun M h => ⟨l, [], h, rfl, by simp⟩
end
/-- Data whose cells tell where the rest lies: under its own name. -/
class IsEx {α : Type} (R : Rep α) (β : outParam Type) (sz : outParam Nat) (f : outParam (α → β → List Value)) (g : outParam (α → β → List HP)) (ok : outParam (α → Prop)) : Prop where
  e : ∃ hlen hone, R = exR sz f g ok hlen hone
section
variable {r : Option Nat} {n : Nat} {P : Program} {ops : Array Oper} {rest : List Oper} {KK : St → Prop} {Q : Exit → St → Prop} {D : List Deferred} {E : Env} {L L0 : List HP} {d : Nat} {ty : TypeId} {pos : String} {af : Array Edge}
variable {α β κ : Type} [DecidableEq κ] {sz : Nat} {f : α → β → List Value} {g : α → β → List HP} {ok : α → Prop} {hlen : ∀ x p, (f x p).length = sz} {hone : ∀ x p, oneN (f x p) = true} {K : KeyT κ} {b : Nat} {m : List (κ × α)}
theorem set_same {l : List α} {i : Nat} {x : α} (h : l[i]? = some x) : l.set i x = l := by
  obtain ⟨h1, h2⟩ := List.getElem?_eq_some_iff.1 h
  rw [← h2, List.set_getElem_self]
/-- Ways that come together, seen from inside. -/
theorem T_joinKT {σ : Type} {x c : Code} {kv : Env} (ks : List Nat) (I : σ → Prop) (U : σ → Env → Env) (M : σ → List HP) (hk : keepO ks E = some kv)
    (h1 : T r n P x ⟨D, E, L⟩ (thenS (fun s' => ∃ y, I y ∧ ∀ W a w, Holds n W s' a w → Holds n W ⟨D, U y kv, M y⟩ a w) Q)) (h2 : ∀ y, I y → T r n P c ⟨D, U y kv, M y⟩ Q) : T r n P x ⟨D, E, L⟩ (thenS (fun s' => T r n P c s' Q) Q) :=
  h1.mono fun e s q => by
    cases e with
    | normal =>
      obtain ⟨y, hy, hh⟩ := q
      exact fun W a w h => h2 y hy W a w (hh W a w h)
    | _ => exact q
end
end Go.SL
set_option linter.unusedVariables false
set_option linter.unusedSimpArgs false
namespace Go.SL
open Go
abbrev DotD := Int × Int
def mayD (d : DotD) : Prop := 0 ≤ d.1 ∧ d.1 < 7 ∧ 1 ≤ d.2 ∧ d.2 ≤ 2147483647
instance (d : DotD) : Decidable (mayD d) := by unfold mayD; exact inferInstance
def lessD (a b : DotD) : Bool := decide (a.1 < b.1 ∨ (a.1 = b.1 ∧ a.2 < b.2))
theorem lessD_iff {a b : DotD} : lessD a b = true ↔ a.1 < b.1 ∨ (a.1 = b.1 ∧ a.2 < b.2) := by simp [lessD]
/-! ### The first that is missing -/
def pfxK : Nat → List Int → Nat
  | n, [] => n
  | n, k :: r => if k = (n : Int) then pfxK (n + 1) r else n
section
variable {α : Type} {l : List (DotD × α)}
structure DI (l : List (DotD × α)) : Prop where
  inc : l.Pairwise fun p q => lessD p.1 q.1 = true
  len : l.length ≤ 65536
  may : ∀ p ∈ l, mayD p.1
def hasD (l : List (DotD × α)) (d : DotD) : Prop := (getM l d).isSome = true
instance (d : DotD) : Decidable (hasD l d) := by unfold hasD; exact inferInstance
theorem hasD_iff {d : DotD} : hasD l d ↔ ∃ p ∈ l, p.1 = d := by
  unfold hasD
  constructor
  · intro h
    obtain ⟨e, he⟩ := Option.isSome_iff_exists.1 h
    exact ⟨_, getM_mem he, rfl⟩
  · rintro ⟨p, hp, rfl⟩
    cases h : getM l p.1 with
    | some _ => rfl
    | none => exact absurd rfl (getM_none.1 h _ hp)
theorem DI.nd (h : DI l) : ND l := h.inc.imp fun h e => by rw [lessD_iff, e] at h; omega
theorem DI.nil : DI ([] : List (DotD × α)) := ⟨List.Pairwise.nil, by simp, by simp⟩
def atO (l : List (DotD × α)) (o : Int) : List (Int × α) := (l.filter fun p => decide (p.1.1 = o)).map fun p => (p.1.2, p.2)
def keysO (l : List (DotD × α)) (o : Int) : List Int := (atO l o).map (·.1)
theorem DI.keys (h : DI l) (o : Int) : (keysO l o).Pairwise (fun x y => x < y) := by
  unfold keysO atO
  refine List.pairwise_map.2 (List.pairwise_map.2 ?_)
  refine (h.inc.filter (fun p => decide (p.1.1 = o))).imp_of_mem fun {a b} ha hb hab => ?_
  have h1 := (List.mem_filter.1 ha).2
  have h2 := (List.mem_filter.1 hb).2
  simp at h1 h2
  rw [lessD_iff] at hab
  show a.1.2 < b.1.2
  omega
/-- How many of an origin stand without a gap. -/
def vecO (l : List (DotD × α)) (o : Int) : Nat := pfxK 1 (keysO l o) - 1
def vecL (l : List (DotD × α)) : List Int := (List.range 7).map fun o : Nat => ((vecO l (o : Int) : Nat) : Int)
/-! ### A dot is put in -/
def putD (l : List (DotD × α)) (d : DotD) (x : α) : List (DotD × α) := insW (fun p : DotD × α => lessD p.1 d) (d, x) l
def addS (l : List (DotD × α)) (d : DotD) (x : α) : List (DotD × α) × Int :=
  if ¬ mayD d then (l, 1) else if hasD l d then (l, 5) else if 65536 ≤ l.length then (l, 2) else (putD l d x, 0)
theorem DI.put (h : DI l) {d : DotD} {x : α} (hd : ¬ hasD l d) (hm : mayD d) (hl : l.length < 65536) : DI (putD l d x) := by
  have hne : ∀ q ∈ l, q.1 ≠ d := fun q hq e => hd (hasD_iff.2 ⟨q, hq, e⟩)
  refine ⟨insW_sorted h.inc (fun q _ hq => hq) (fun q hq hlt => ?_) (fun a _ b _ hab hb => ?_), by unfold putD; rw [insW_len]; omega, fun p hp => ?_⟩
  · have h1 := hne q hq
    have h2 : ¬ lessD q.1 d = true := by rw [hlt]; simp
    rw [lessD_iff] at h2
    show lessD d q.1 = true
    rw [lessD_iff]
    have : ¬ (q.1.1 = d.1 ∧ q.1.2 = d.2) := fun e => h1 (Prod.ext e.1 e.2)
    omega
  · rw [lessD_iff] at hab hb ⊢; omega
  · rcases mem_insW.1 hp with rfl | hp
    · exact hm
    · exact h.may p hp
theorem DI.add (h : DI l) (d : DotD) (x : α) : DI (addS l d x).1 := by
  unfold addS
  split
  · exact h
  · split
    · exact h
    · split
      · exact h
      · rename_i h1 h2 h3
        exact h.put h2 (Classical.not_not.1 h1) (by omega)
end
/-! ### Vectors -/
def ofV (v : List Int) (o : Int) : Int := if o < 0 then 0 else (v[o.toNat]?).getD 0
def hasV (v : List Int) (d : DotD) : Prop := 0 < d.2 ∧ d.2 ≤ ofV v d.1
instance (v : List Int) (d : DotD) : Decidable (hasV v d) := by unfold hasV; exact inferInstance
def plainV : List Int → List Int
  | [] => []
  | x :: r => if plainV r = [] ∧ x = 0 then [] else x :: plainV r
end Go.SL
set_option linter.unusedVariables false
set_option linter.unusedSimpArgs false
namespace Go.SL
open Go
def goesC (l : List EventD) (e : EventD) : Prop := ∃ x ∈ l, x.clears = true ∧ x.cart = e.cart ∧ x.sku = e.sku ∧ hasV x.deps e.dot
instance (l : List EventD) (e : EventD) : Decidable (goesC l e) := by unfold goesC; exact inferInstance
def standC (l : List EventD) : List EventD := l.filter fun e => !decide (goesC l e)
def onceS : List DotD → List EventD → List EventD
  | _, [] => []
  | seen, e :: r => if e.dot ∈ seen then onceS seen r else e :: onceS (e.dot :: seen) r
def onceC (l : List EventD) : List EventD := onceS [] l
def sumC (l : List EventD) : Int := (l.map fun e => e.qty).sum
def ofC (cart sku : ByteArray) (e : EventD) : Bool := decide (e.cart = cart) && decide (e.sku = sku)
/-- How many of an article a cart has by these events. -/
def lineF (l : List EventD) (cart sku : ByteArray) : Int := sumC ((onceC (standC l)).filter (ofC cart sku))
structure QtyC (l : List EventD) : Prop where
  qty : ∀ e ∈ l, 0 ≤ e.qty ∧ e.qty ≤ 1000
structure RightC (l : List EventD) : Prop where
  qty : ∀ e ∈ l, 0 ≤ e.qty ∧ e.qty ≤ 1000
  one : ∀ a ∈ l, ∀ b ∈ l, a.dot = b.dot → a = b
abbrev LineD := ByteArray × Int
theorem sumC_perm {a b : List EventD} (h : a.Perm b) : sumC a = sumC b := by
  unfold sumC
  induction h with
  | nil => rfl
  | cons x _ ih => simp [ih]
  | swap x y l => simp; omega
  | trans _ _ h1 h2 => exact h1.trans h2
theorem sumC_cons (e : EventD) (l : List EventD) : sumC (e :: l) = e.qty + sumC l := by simp [sumC]
theorem sumC_app (a b : List EventD) : sumC (a ++ b) = sumC a + sumC b := by
  induction a with
  | nil => simp [sumC]
  | cons x r ih => rw [List.cons_append, sumC_cons, sumC_cons, ih]; omega
theorem sumC_bound : ∀ {l : List EventD}, (∀ e ∈ l, 0 ≤ e.qty ∧ e.qty ≤ 1000) → 0 ≤ sumC l ∧ sumC l ≤ 1000 * (l.length : Int)
  | [], _ => by simp [sumC]
  | e :: r, h => by
    have h1 := sumC_bound fun x hx => h x (List.mem_cons_of_mem _ hx)
    have h2 := h e List.mem_cons_self
    rw [sumC_cons, List.length_cons]; omega
/-! ### The first of each dot -/
theorem onceS_mem : ∀ {l : List EventD} {seen : List DotD} {e : EventD}, e ∈ onceS seen l → e ∈ l ∧ e.dot ∉ seen
  | x :: r, seen, e, h => by
    unfold onceS at h
    split at h
    · obtain ⟨h1, h2⟩ := onceS_mem h; exact ⟨List.mem_cons_of_mem _ h1, h2⟩
    · rcases List.mem_cons.1 h with rfl | h
      · exact ⟨List.mem_cons_self, by assumption⟩
      · obtain ⟨h1, h2⟩ := onceS_mem h; exact ⟨List.mem_cons_of_mem _ h1, fun h3 => h2 (List.mem_cons_of_mem _ h3)⟩
theorem onceS_nodup : ∀ (l : List EventD) (seen : List DotD), (onceS seen l).Pairwise fun a b => a.dot ≠ b.dot
  | [], _ => List.Pairwise.nil
  | x :: r, seen => by
    unfold onceS
    split
    · exact onceS_nodup r seen
    · refine List.pairwise_cons.2 ⟨fun b hb h => (onceS_mem hb).2 (by rw [← h]; exact List.mem_cons_self), onceS_nodup r _⟩
theorem onceS_has : ∀ {l : List EventD} {seen : List DotD} {e : EventD}, e ∈ l → e.dot ∉ seen → ∃ x ∈ onceS seen l, x.dot = e.dot
  | y :: r, seen, e, h, hs => by
    unfold onceS
    split
    · rename_i hy
      rcases List.mem_cons.1 h with rfl | h
      · exact absurd hy hs
      · exact onceS_has h hs
    · by_cases hd : e.dot = y.dot
      · exact ⟨y, List.mem_cons_self, hd.symm⟩
      · rcases List.mem_cons.1 h with rfl | h
        · exact absurd rfl hd
        · obtain ⟨x, h1, h2⟩ := onceS_has (seen := y.dot :: seen) h (fun h3 => by rcases List.mem_cons.1 h3 with h4 | h4; exact hd h4; exact hs h4)
          exact ⟨x, List.mem_cons_of_mem _ h1, h2⟩
theorem onceC_sub {l : List EventD} {e : EventD} (h : e ∈ onceC l) : e ∈ l := (onceS_mem h).1
theorem onceC_nodup (l : List EventD) : (onceC l).Nodup := (onceS_nodup l []).imp fun h e => h (by rw [e])
theorem RightC.mem {l : List EventD} (h : RightC l) {e : EventD} : e ∈ onceC l ↔ e ∈ l := ⟨onceC_sub, fun he => by
  obtain ⟨x, h1, h2⟩ := onceS_has (seen := []) he (by simp)
  rw [← h.one x (onceC_sub h1) e he h2]; exact h1⟩
theorem RightC.sub {l m : List EventD} (h : RightC l) (hs : ∀ e ∈ m, e ∈ l) : RightC m := ⟨fun e he => h.qty e (hs e he), fun a ha b hb => h.one a (hs a ha) b (hs b hb)⟩
theorem nodup_perm {a b : List EventD} (h1 : a.Nodup) (h2 : b.Nodup) (h : ∀ e, e ∈ a ↔ e ∈ b) : a.Perm b := (List.perm_ext_iff_of_nodup h1 h2).2 h
theorem mem_stand {l : List EventD} {e : EventD} : e ∈ standC l ↔ e ∈ l ∧ ¬ goesC l e := by unfold standC; rw [List.mem_filter]; simp
theorem RightC.stand {l : List EventD} (h : RightC l) : RightC (standC l) := h.sub fun e he => (mem_stand.1 he).1
/-- The events that count. -/
def countC (l : List EventD) : List EventD := onceC (standC l)
theorem RightC.count {l : List EventD} (h : RightC l) {e : EventD} : e ∈ countC l ↔ e ∈ l ∧ ¬ goesC l e := h.stand.mem.trans mem_stand
theorem countC_nodup (l : List EventD) : (countC l).Nodup := onceC_nodup _
theorem lineF_eq (l : List EventD) (cart sku : ByteArray) : lineF l cart sku = sumC ((countC l).filter (ofC cart sku)) := rfl
/-- What counts is so much: lines by any list of these events, each once. -/
theorem lineF_by {l m : List EventD} (h : RightC l) (hm : m.Nodup) (he : ∀ e, e ∈ m ↔ e ∈ l ∧ ¬ goesC l e) (cart sku : ByteArray) : lineF l cart sku = sumC (m.filter (ofC cart sku)) :=
  sumC_perm ((nodup_perm (countC_nodup l) hm fun e => h.count.trans (he e).symm).filter _)
theorem lineF_bound {l : List EventD} (h : ∀ e ∈ l, 0 ≤ e.qty ∧ e.qty ≤ 1000) (cart sku : ByteArray) : 0 ≤ lineF l cart sku ∧ lineF l cart sku ≤ 1000 * (l.length : Int) := by
  have h1 : ∀ e ∈ (onceC (standC l)).filter (ofC cart sku), 0 ≤ e.qty ∧ e.qty ≤ 1000 := fun e he => h e (mem_stand.1 (onceC_sub (List.mem_filter.1 he).1)).1
  have h2 := sumC_bound h1
  have h3 : ((onceC (standC l)).filter (ofC cart sku)).length ≤ l.length := by
    refine Nat.le_trans (List.length_filter_le _ _) ?_
    have : ∀ (l : List EventD) (seen : List DotD), (onceS seen l).length ≤ l.length := by
      intro l
      induction l with
      | nil => intro seen; simp [onceS]
      | cons x r ih =>
        intro seen
        unfold onceS
        split
        · have := ih seen; simp only [List.length_cons]; omega
        · have := ih (x.dot :: seen); simp only [List.length_cons]; omega
    exact Nat.le_trans (this _ _) (List.length_filter_le _ _)
  unfold lineF; omega
/-! ### Lines -/
def strLt (a b : ByteArray) : Prop := a.data.toList < b.data.toList
structure IsLines (l : List EventD) (cart : ByteArray) (xs : List LineD) : Prop where
  inc : xs.Pairwise fun p q => strLt p.1 q.1
  mem : ∀ k q, (k, q) ∈ xs ↔ q = lineF l cart k ∧ 0 < q
  tot : (xs.map fun p => p.2).sum = sumC ((countC l).filter fun e => decide (e.cart = cart))
/-- What a function tells of lines that have an article. -/
def ofX (xs : List LineD) (sku : ByteArray) : Int := match xs.find? fun p => decide (p.1 = sku) with
  | some p => p.2
  | none => 0
theorem IsLines.of {l : List EventD} {cart : ByteArray} {xs : List LineD} (h : IsLines l cart xs) (hq : ∀ e ∈ l, 0 ≤ e.qty ∧ e.qty ≤ 1000) (sku : ByteArray) : ofX xs sku = lineF l cart sku := by
  unfold ofX
  have h0 := (lineF_bound hq cart sku).1
  cases hf : xs.find? fun p => decide (p.1 = sku) with
  | none =>
    have h1 := List.find?_eq_none.1 hf
    by_cases hp : 0 < lineF l cart sku
    · exact absurd (decide_eq_true rfl) (h1 _ ((h.mem sku (lineF l cart sku)).2 ⟨rfl, hp⟩))
    · show (0 : Int) = _; omega
  | some p =>
    have h1 := List.find?_some hf
    have h2 := List.mem_of_find?_eq_some hf
    obtain ⟨k, q⟩ := p
    have hk : k = sku := by simpa using h1
    subst hk
    exact ((h.mem k q).1 h2).1
theorem strLt_irr {a : ByteArray} : ¬ strLt a a := List.lt_irrefl _
theorem IsLines.ext {l l' : List EventD} {cart cart' : ByteArray} {xs ys : List LineD} (h : IsLines l cart xs) (h' : IsLines l' cart' ys) (he : ∀ k, lineF l cart k = lineF l' cart' k) : xs = ys := by
  have n1 : xs.Nodup := h.inc.imp fun {a b} hab (e : a = b) => strLt_irr (a := b.1) (by rw [e] at hab; exact hab)
  have n2 : ys.Nodup := h'.inc.imp fun {a b} hab (e : a = b) => strLt_irr (a := b.1) (by rw [e] at hab; exact hab)
  refine ((List.perm_ext_iff_of_nodup n1 n2).2 fun p => ?_).eq_of_pairwise (fun a b _ _ h1 h2 => ?_) h.inc h'.inc
  · obtain ⟨k, q⟩ := p
    rw [h.mem, h'.mem, he]
  · exact absurd (List.lt_trans h1 h2) (List.lt_irrefl _)
/-! ### One more event that clears nothing and goes by nothing -/
theorem RightC.snoc {l : List EventD} (h : RightC l) {x : EventD} (hq : 0 ≤ x.qty ∧ x.qty ≤ 1000) (hd : ∀ e ∈ l, e.dot ≠ x.dot) : RightC (l ++ [x]) := ⟨fun e he => by
  rcases List.mem_append.1 he with he | he
  · exact h.qty e he
  · rw [List.mem_singleton.1 he]; exact hq, fun a ha b hb hab => by
  rcases List.mem_append.1 ha with ha | ha
  · rcases List.mem_append.1 hb with hb | hb
    · exact h.one a ha b hb hab
    · rw [List.mem_singleton.1 hb] at hab; exact absurd hab (hd a ha)
  · rcases List.mem_append.1 hb with hb | hb
    · rw [List.mem_singleton.1 ha] at hab; exact absurd hab.symm (hd b hb)
    · rw [List.mem_singleton.1 ha, List.mem_singleton.1 hb]⟩
end Go.SL
set_option linter.unusedVariables false
set_option linter.unusedSectionVars false
namespace Go.SL
open Go
/-- The record of a range over a function. -/
def lrec (l n : Nat) (E : Env) (ps : Array Tmp) (assign body : Code) (b0 : Nat) (st : LoopState) (j : Option Code) : HP :=
  ⟨fun _ h => ∃ (fn : FuncId) (tmps : Array Value), tmps.size = n ∧ (∀ i v, look E i = some v → tmps[i]? = some v) ∧ h l = some (.loop { state := st, pending := j, fn := fn, tmps := tmps, params := ps, assign := assign, body := body, defers := b0 }),
    fun _ hh ⟨fn, tmps, h1, h2, h3⟩ => ⟨fn, tmps, h1, h2, hh _ _ h3⟩⟩
def mark (b : Nat) : Deferred := { target := .collected b, args := #[] }
abbrev own0 (b : Nat) : HP := own b (.deferred (some []))
section
variable {l n : Nat} {E : Env} {ps : Array Tmp} {assign body : Code} {b0 : Nat} {st st' : LoopState} {j j' : Option Code} {L L' : List HP} {o w : World} {P : Program}
abbrev loopO (fn : FuncId) (tmps : Array Value) (ps : Array Tmp) (assign body : Code) (b0 : Nat) (st : LoopState) (j : Option Code) : Obj := .loop { state := st, pending := j, fn := fn, tmps := tmps, params := ps, assign := assign, body := body, defers := b0 }
theorem lrec_open (h : Sat o w (lrec l n E ps assign body b0 st j :: L)) : ∃ fn tmps, tmps.size = n ∧ (∀ i v, look E i = some v → tmps[i]? = some v) ∧ Sat o w (own l (loopO fn tmps ps assign body b0 st j) :: L) := by
  obtain ⟨M, k, hd, hM, hk, h1, h2, hd', l1, l2, ⟨fn, tmps, a, b, c⟩, hs⟩ := h.ex
  exact ⟨fn, tmps, a, b, ⟨M, k, hd, hM, hk, h1, h2, hd', l1, l2, c, hs⟩, h.os, h.tape, h.output, h.size⟩
theorem lrec_close {fn : FuncId} {tmps : Array Value} (h1 : tmps.size = n) (h2 : ∀ i v, look E i = some v → tmps[i]? = some v) : Gives (own l (loopO fn tmps ps assign body b0 st j) :: L) (lrec l n E ps assign body b0 st j :: L) :=
  fun M h ⟨a1, a2, ad, m1, m2, hp, hs⟩ => ⟨a1, a2, ad, m1, m2, ⟨fn, tmps, h1, h2, hp⟩, hs⟩
theorem Sat.put {b : Nat} {x y : Obj} (h : Sat o w (own b x :: L)) : Sat o (w.putObj b y) (own b y :: L) := by
  have hb := h.own_at
  exact h.set (World.putObj_heap_same (Array.getElem?_eq_some_iff.1 hb).1) (fun i hi => World.putObj_heap_other hi) rfl rfl rfl (by simp)
end
/-- Yield, called so, comes to what Φ tells. -/
def YieldC (P : Program) (l : Nat) (vs : List Value) (L : List HP) (Φ : Value → List HP → Prop) : Prop :=
  ∀ r o w, Sat o w L → ∃ f tmps assign body, (Instr.yield l vs.toArray).run P w = .ok (.round l f tmps assign body) w ∧ RoundIn (Fw r) 0 P l f tmps assign body w (fun e w' => ∃ v L', e = .returned v ∧ Φ v L' ∧ Sat o w' L')
section
variable {r : Option Nat} {n : Nat} {P : Program} {ops : Array Oper} {rest : List Oper} {K : St → Prop} {Q : Exit → St → Prop} {D : List Deferred} {E : Env} {L L' : List HP} {d : Nat} {ty : TypeId} {pos : String} {af : Array Edge}
theorem run_call_yield {l : Nat} {c : Operand} {xs : List Operand} {vs : List Value} {ts : Array TypeId} {a : Act} {w : World} {dst : Option Tmp} {nx : Next} (ha : View n D a E) (hf : ev E c = some (.func (.yield l) #[] #[])) (hx : evl E xs = some vs) (hy : (Instr.yield l vs.toArray).run P w = .ok nx w) :
    (execOp a.eval ⟨dst, .call { callee := .value c, args := xs.toArray, argTypes := ts }, ty, pos, af, none⟩).run P w = .ok nx w := by
  simp [execOp, resolve, invoke, ha.ev hf, Deferred.ofValue, ha.evl hx, hy]
theorem TL_yield {l : Nat} {c : Operand} {xs : List Operand} {vs : List Value} {ts : Array TypeId} {Φ : Value → List HP → Prop} (hd : Nat.blt d n = true) (hf : ev E c = some (.func (.yield l) #[] #[])) (hx : evl E xs = some vs) (spec : YieldC P l vs L Φ)
    (h : ∀ v L', Φ v L' → TL r n P ops rest ⟨D, (d, v) :: E, L'⟩ K) : TL r n P ops (⟨some d, .call { callee := .value c, args := xs.toArray, argTypes := ts }, ty, pos, af, none⟩ :: rest) ⟨D, E, L⟩ K := fun W a w hh => by
  refine wpListIn_plain rfl fun K' hK => ⟨fun _ _ => trivial, ?_⟩
  obtain ⟨f, tmps, assign, body, hy, hr⟩ := spec r W w hh.2
  rw [Oper.semAt_eq _ _ _ (fun _ e => by cases e), run_call_yield hh.1 hf hx hy]
  refine ⟨fun hx => by simp at hx, hr.mono ?_⟩
  rintro e w' ⟨v, L', rfl, hΦ, hs⟩
  exact hK _ _ (h v L' hΦ W _ _ ⟨hh.1.put (by simpa using hd) v, hs⟩)
/-! ### A round -/
def setE : List (Tmp × Value) → Env → Env
  | [], E => E
  | (t, v) :: r, E => setE r ((t, v) :: E)
theorem view_set : ∀ {ts : List (Tmp × Value)} {tm : Array Value} {E : Env}, tm.size = n → (∀ i v, look E i = some v → tm[i]? = some v) → (∀ p ∈ ts, p.1 < n) →
    (ts.foldl (fun tmps (p : Tmp × Value) => tmps.setIfInBounds p.1 p.2) tm).size = n ∧ ∀ i v, look (setE ts E) i = some v → (ts.foldl (fun tmps (p : Tmp × Value) => tmps.setIfInBounds p.1 p.2) tm)[i]? = some v
  | [], tm, E, hs, hv, _ => ⟨hs, hv⟩
  | (t, u) :: r, tm, E, hs, hv, hl => by
    have ht := hl (t, u) List.mem_cons_self
    refine view_set (ts := r) (tm := tm.setIfInBounds t u) (E := (t, u) :: E) (by simpa using hs) (fun i v hi => ?_) (fun p hp => hl p (List.mem_cons_of_mem _ hp))
    have hview : View n [] (({ tmps := tm, defers := [] } : Act).put (some t) u) ((t, u) :: E) := View.put (a := { tmps := tm, defers := [] }) (E := E) (D := []) ⟨hs, rfl, hv⟩ ht u
    exact hview.get i v hi
/-- What a round comes to, by the way its body ends. -/
def roundQ (l n : Nat) (E : Env) (ps : Array Tmp) (assign body : Code) (b0 : Nat) (j : Option Code) (Φ : Value → List HP → Prop) : Exit → St → Prop
  | .normal, s => ∃ L3, Gives s.L (lrec l n E ps assign body b0 .busy j :: L3) ∧ Φ (.bool true) (lrec l n E ps assign body b0 .ready none :: L3)
  | .ret, s => ∃ L3, Gives s.L (lrec l n E ps assign body b0 .busy j :: L3) ∧ Φ (.bool false) (lrec l n E ps assign body b0 .done (some .ret) :: L3)
  | .exit id, s => ∃ L3, Gives s.L (lrec l n E ps assign body b0 .busy j :: L3) ∧ Φ (.bool false) (lrec l n E ps assign body b0 .done (some (.exit id)) :: L3)
  | _, _ => False
theorem lrec_end {l : Nat} {ps : Array Tmp} {assign body : Code} {b0 : Nat} {j jump : Option Code} {o w : World} (h : Sat o w (lrec l n E ps assign body b0 .busy j :: L)) :
    ∃ w', (Instr.endRound l jump).run P w = .ok (.bool jump.isNone) w' ∧ Sat o w' (lrec l n E ps assign body b0 (if jump.isNone then .ready else .done) jump :: L) := by
  obtain ⟨fn, tmps, h1, h2, hs⟩ := lrec_open h
  exact ⟨_, run_endRound jump hs.own_at, (hs.put).gives (lrec_close h1 h2)⟩
theorem YieldC_of {l : Nat} {ps : Array Tmp} {assign body : Code} {b0 : Nat} {j : Option Code} {vs : List Value} {Φ : Value → List HP → Prop} (hsz : vs.length = ps.size) (hps : ∀ t ∈ ps, t < n)
    (h : T (some l) n P assign ⟨[], setE (ps.toList.zip vs) E, lrec l n E ps assign body b0 .ready j :: L⟩ (fun e s => e = .normal ∧ ∃ L2, Gives s.L (lrec l n E ps assign body b0 .ready j :: L2) ∧ T (some l) n P body ⟨s.D, s.E, lrec l n E ps assign body b0 .busy j :: L2⟩ (roundQ l n E ps assign body b0 j Φ))) :
    YieldC P l vs (lrec l n E ps assign body b0 .ready j :: L) Φ := fun r o w hs => by
  obtain ⟨fn, tmps, h1, h2, hs1⟩ := lrec_open hs
  have hy := run_yield (P := P) (args := vs.toArray) hs1.own_at (by simpa using hsz)
  refine ⟨_, _, _, _, hy, roundIn_of_wpIn trivial ?_⟩
  have hfold : (ps.zip vs.toArray).foldl (fun tmps (t, a) => tmps.setIfInBounds t a) tmps = (ps.toList.zip vs).foldl (fun tmps (p : Tmp × Value) => tmps.setIfInBounds p.1 p.2) tmps := by
    rw [← Array.foldl_toList, Array.toList_zip]
  have hset := view_set (n := n) (ts := ps.toList.zip vs) (tm := tmps) (E := E) h1 h2 (fun p hp => hps _ (by have := (List.of_mem_zip hp).1; simpa using this))
  have hview : View n [] { tmps := (ps.zip vs.toArray).foldl (fun tmps (t, a) => tmps.setIfInBounds t a) tmps, defers := [] } (setE (ps.toList.zip vs) E) := by
    rw [hfold]; exact ⟨hset.1, rfl, hset.2⟩
  refine wpIn_mono (h o _ w ⟨hview, hs⟩) ?_
  rintro e a' w' ⟨s', ⟨rfl, L2, hg, hb⟩, hk⟩
  obtain ⟨fn', tmps', k1, k2, k3⟩ := lrec_open (hk.2.gives hg)
  refine ⟨_, run_beginRound k3.own_at rfl, wpIn_mono (hb o a' _ ⟨hk.1, (k3.put).gives (lrec_close k1 k2)⟩) ?_⟩
  rintro e a2 w2 ⟨s2, hq, hk2⟩
  cases e with
  | normal =>
    obtain ⟨L3, g, hΦ⟩ := hq
    obtain ⟨w3, hr, hs3⟩ := lrec_end (P := P) (jump := none) (hk2.2.gives g)
    exact ⟨_, w3, hr, _, _, rfl, hΦ, hs3⟩
  | ret =>
    obtain ⟨L3, g, hΦ⟩ := hq
    obtain ⟨w3, hr, hs3⟩ := lrec_end (P := P) (jump := some .ret) (hk2.2.gives g)
    exact ⟨_, w3, hr, _, _, rfl, hΦ, hs3⟩
  | exit id =>
    obtain ⟨L3, g, hΦ⟩ := hq
    obtain ⟨w3, hr, hs3⟩ := lrec_end (P := P) (jump := some (.exit id)) (hk2.2.gives g)
    exact ⟨_, w3, hr, _, _, rfl, hΦ, hs3⟩
  | goto t => exact hq.elim
  | panic c => exact hq.elim
  | outgrown => exact hq.elim
/-! ### The statement -/
/-- What comes behind the function that was ranged over. -/
def behind (r : Option Nat) (n : Nat) (P : Program) (D : List Deferred) (E : Env) (L2 : List HP) (Q : Exit → St → Prop) : Option Code → Prop
  | none => Q .normal ⟨D, E, L2⟩
  | some c => T r n P c ⟨D, E, L2⟩ Q
theorem T_rangeFunc {g : Operand} {f : FuncId} [hc : IsCall P f] {fs cs : List Value} {ps : Array Tmp} {assign body : Code} {Φ' : Nat → Nat → Value → List HP → Prop} (hg : ev E g = some (.func (.func f) fs.toArray cs.toArray))
    (spec : ∀ l b0, Fn P f (fs ++ [Value.func (.yield l) #[] #[]] ++ cs).toArray (lrec l n E ps assign body b0 .ready none :: own0 b0 :: L) (Φ' l b0))
    (h : ∀ l b0 v L', Φ' l b0 v L' → ∃ st j L2, st ≠ .busy ∧ Gives L' (lrec l n E ps assign body b0 st j :: L2) ∧ behind none n P (mark b0 :: D) E L2 Q j) :
    T none n P (.rangeFunc g ps assign body) ⟨D, E, L⟩ Q := fun o a w hh => by
  refine wpIn_rangeFunc fun fn _ => ?_
  have henter := run_enterLoop_outer (P := P) (w := w) fn a.tmps ps assign body
  have hs1 := (hh.2.alloc (.deferred (some []))).alloc (.loop { state := .ready, pending := none, fn := fn, tmps := a.tmps, params := ps, assign := assign, body := body, defers := w.heap.size })
  have hsz : (w.alloc (.deferred (some []))).heap.size = w.heap.size + 1 := World.size_alloc _ _
  rw [hsz] at hs1
  have hs2 := hs1.gives (lrec_close (ps := ps) (assign := assign) (body := body) (b0 := w.heap.size) (st := .ready) (j := none) hh.1.size hh.1.get)
  refine ⟨_, _, _, { target := .fn (.func f) cs.toArray, args := (fs ++ [Value.func (.yield (w.heap.size + 1)) #[] #[]]).toArray }, (w.alloc (.deferred (some []))).alloc (loopO fn a.tmps ps assign body w.heap.size .ready none), f, (fs ++ [Value.func (.yield (w.heap.size + 1)) #[] #[]] ++ cs).toArray, _, henter, ?_, fun _ _ => trivial, ?_, fun hx => by simp at hx, ((spec _ _).into hs2).mono ?_⟩
  · have hc1 : a.eval (.const (Value.func (.yield (w.heap.size + 1)) #[] #[])) = Value.func (.yield (w.heap.size + 1)) #[] #[] := rfl
    simp [resolve, hh.1.ev hg, Deferred.ofValue, hc1]
  · simp [invoke, hc.run]
  · rintro e w' ⟨v, L', rfl, hΦ, hs⟩
    obtain ⟨st, j, L2, hst, hgv, hb⟩ := h _ _ v L' hΦ
    obtain ⟨fn', tmps', k1, k2, k3⟩ := lrec_open (hs.gives hgv)
    refine ⟨_, _, run_endLoop k3.own_at hst, ?_⟩
    have hk : Holds n o ⟨mark w.heap.size :: D, E, L2⟩ { a with defers := [{ target := .collected w.heap.size, args := #[] }] ++ a.defers } (w'.putObj (w.heap.size + 1) (.loop { state := .exhausted, pending := j, fn := fn', tmps := tmps', params := ps, assign := assign, body := body, defers := w.heap.size })) :=
      ⟨⟨hh.1.size, by simp [mark, hh.1.defers], hh.1.get⟩, (k3.put).gives (Gives.drop _ _)⟩
    cases j with
    | none => exact ⟨_, hb, hk⟩
    | some c => exact hb o _ _ hk
/-! ### Functions that hold such a statement -/
def RetQM (P : Program) (fn : Func) (Φ : Value → List HP → Prop) (e : Exit) (s : St) : Prop :=
  ∃ (bs : List Nat) (L2 : List HP), s.D = bs.map mark ∧ Gives s.L (bs.map own0 ++ L2) ∧ RetQ P fn Φ e ⟨[], s.E, L2⟩
theorem leaves_marks {fn : Func} {R : Ending → World → Prop} {o : World} {L2 : List HP} {tmps : Array Value} : ∀ (bs : List Nat) (w : World), Sat o w (bs.map own0 ++ L2) → (∀ w', Sat o w' L2 → ∃ v, (results fn tmps).run P w' = .ok v w' ∧ R (.returned v) w') → LeavesInM (Fw none) 0 P fn tmps R (bs.map mark) .returning w
  | [], w, hs, hr => hr w hs
  | b :: bs, w, hs, hr => by
    refine ⟨by simp, .inl ⟨b, _, rfl, run_takeDeferred (Sat.own_at hs), ?_⟩⟩
    exact leaves_marks bs _ ((Sat.put (y := .deferred none) hs).gives (Gives.drop _ _)) hr
theorem Fn_enterM {f : FuncId} {fn : Func} {c : Code} {args : List Value} {E0 : Env} {Φ : Value → List HP → Prop} (hf : P.funcs[f]? = some fn) (hb : fn.body = some c) (hn : fn.ntmps = n) (hE : envO 0 args = some E0) (hl : Nat.ble args.length n = true)
    (h : T none n P c ⟨[], E0, L⟩ (RetQM P fn Φ)) : Fn P f args.toArray L Φ := fun W w hs => by
  refine callsIn_wide.1 (callsIn_of_wp_marks (F := Fence.wide) (n := 0) hf hb trivial ?_)
  have hsz : args.length ≤ n := by simpa using hl
  have hview : View n [] { tmps := args.toArray ++ Array.replicate (fn.ntmps - args.toArray.size) undef, defers := [] } E0 := by
    refine ⟨by simp [hn]; omega, rfl, fun j v hv => ?_⟩
    obtain ⟨_, h2⟩ := envO_look hE j v hv
    simp only [Nat.sub_zero] at h2
    have hj : j < args.length := (List.getElem?_eq_some_iff.1 h2).1
    simp [Array.getElem?_append, hj]
    simpa [List.getElem?_eq_getElem hj] using h2
  refine wpIn_mono (h W _ w ⟨hview, hs⟩) ?_
  rintro e a' w' ⟨s', ⟨bs, L2, hD, hg, q⟩, hk⟩
  have key : (∃ v L', Φ v L' ∧ ∀ n W a w, Holds n W ⟨[], s'.E, L2⟩ a w → Sat W w L' ∧ (results fn a.tmps).run P w = .ok v w) → LeavesInM Fence.wide 0 P fn a'.tmps (fun e w' => ∃ v L', e = .returned v ∧ Φ v L' ∧ Sat W w' L') a'.defers .returning w' := by
    rintro ⟨v, L', hΦ, hr⟩
    rw [hk.1.defers, hD]
    refine leaves_marks (L2 := L2) (o := W) bs w' (hk.2.gives hg) (fun w2 h2 => ?_)
    obtain ⟨k1, k2⟩ := hr n W { tmps := a'.tmps, defers := [] } w2 ⟨⟨hk.1.size, rfl, hk.1.get⟩, h2⟩
    exact ⟨v, k2, v, L', rfl, hΦ, k1⟩
  cases e <;> simp only [RetQ] at q
  case normal => exact key q.2
  case ret => exact key q.2
end
end Go.SL
set_option linter.unusedVariables false
set_option linter.unusedSectionVars false
namespace Go.SL
open Go
/-- The consumer is handed the items, one by one, until it stops. -/
inductive Runs {τ α : Type} (step : τ → α → τ → Prop) (stop : τ → Bool) : τ → List α → τ → Prop
  | nil (s : τ) : Runs step stop s [] s
  | halt {s s' : τ} {x : α} {xs : List α} : step s x s' → stop s' = true → Runs step stop s (x :: xs) s'
  | go {s s' s2 : τ} {x : α} {xs : List α} : step s x s' → stop s' = false → Runs step stop s' xs s2 → Runs step stop s (x :: xs) s2
theorem Runs.snoc {τ α : Type} {step : τ → α → τ → Prop} {stop : τ → Bool} {s s1 s2 : τ} {xs : List α} {x : α} (h : Runs step stop s xs s1) (h0 : stop s = false) (h1 : stop s1 = false) (h2 : step s1 x s2) : Runs step stop s (xs ++ [x]) s2 := by
  induction h with
  | nil s =>
    cases e : stop s2 with
    | true => exact .halt h2 e
    | false => exact .go h2 e (.nil _)
  | halt a b => rw [b] at h1; cases h1
  | go a b c ih => exact .go a b (ih b h1 h2)
theorem Runs.more {τ α : Type} {step : τ → α → τ → Prop} {stop : τ → Bool} {s s1 : τ} {xs : List α} (h : Runs step stop s xs s1) (h1 : stop s1 = true) (h0 : stop s = false) (ys : List α) : Runs step stop s (xs ++ ys) s1 := by
  induction h with
  | nil s => rw [h1] at h0; cases h0
  | halt a b => exact .halt a b
  | go a b c ih => exact .go a b (ih h1 b)
/-- A consumer's resource, by its record's number. -/
def con (l : Nat) (p : HP) : HP := p
instance findK_con {L : List HP} {l : Nat} {p : HP} : FindK (con l p :: L) l (con l p) L := ⟨Gives.refl _⟩
def YieldsL (P : Program) (l : Nat) {τ α : Type} (C : τ → HP) (val : α → List Value) (ok : α → List HP → Prop) (step : τ → α → τ → Prop) (stop : τ → Bool) (cnt : τ → Nat) (N : Nat) : Prop :=
  ∀ s x Lx, stop s = false → ok x Lx → cnt s < N → YieldC P l (val x) (con l (C s) :: Lx) (fun v L' => ∃ s', step s x s' ∧ v = .bool (!stop s') ∧ L' = con l (C s') :: Lx)
abbrev YieldsC (P : Program) (l : Nat) {τ α : Type} (C : τ → HP) (val : α → List Value) (ok : α → Prop) (step : τ → α → τ → Prop) (stop : τ → Bool) (cnt : τ → Nat) (N : Nat) : Prop := YieldsL P l C val (fun x _ => ok x) step stop cnt N
/-- The function value hands some list of items, az seqs tells, to whatever consumer; what lies beside stays. -/
def IterL (P : Program) (c : Value) {α : Type} (val : α → List Value) (ok : α → List HP → Prop) (N : Nat) (Lf : List HP) (seqs : Bool → List α → Prop) : Prop :=
  ∃ f fs cs, c = .func (.func f) fs.toArray cs.toArray ∧ IsCall P f ∧ ∀ (τ : Type) (l : Nat) (C : τ → HP) (step : τ → α → τ → Prop) (stop : τ → Bool) (cnt : τ → Nat) (s0 : τ) (Lx : List HP), stop s0 = false → cnt s0 = 0 → (∀ s x s', step s x s' → cnt s' = cnt s + 1) → YieldsL P l C val ok step stop cnt N →
    Fn P f (fs ++ [Value.func (.yield l) #[] #[]] ++ cs).toArray (con l (C s0) :: (Lf ++ Lx)) (fun v L' => ∃ xs s', seqs (stop s') xs ∧ Runs step stop s0 xs s' ∧ L' = con l (C s') :: (Lf ++ Lx))
abbrev IterC (P : Program) (c : Value) {α : Type} (val : α → List Value) (ok : α → Prop) (N : Nat) (Lf : List HP) (seqs : Bool → List α → Prop) : Prop := IterL P c val (fun x _ => ok x) N Lf seqs
def unS (L : List HP) : HP := exH fun _ : Unit => L
theorem unS_close {L L' : List HP} : Gives (L ++ L') (unS L :: L') := exH_close (f := fun _ : Unit => L) ()
theorem unS_open {L L' : List HP} : Gives (unS L :: L') (L ++ L') := fun M h ⟨h1, h2, hd, l1, l2, ⟨_, hx⟩, hs⟩ => sep_append hx hs hd l1 l2
theorem Gives.perm {L L' : List HP} (h : L.Perm L') : Gives L L' := by
  induction h with
  | nil => exact Gives.refl _
  | cons x _ ih => exact Gives.cons x ih
  | swap x y l => exact Gives.swap _ _ _
  | trans _ _ h1 h2 => exact h1.trans h2
section
variable {n : Nat} {P : Program} {Q : Exit → St → Prop} {D : List Deferred} {E : Env} {L : List HP}
abbrev LS (σ : Type) := σ × Option Code
def lcon {σ : Type} (l n : Nat) (E : Env) (ps : Array Tmp) (assign body : Code) (b0 : Nat) (C : σ → List HP) (s : LS σ) : HP := unS (lrec l n E ps assign body b0 (if s.2.isNone then .ready else .done) s.2 :: C s.1)
theorem behind_none {r : Option Nat} {L2 : List HP} (h : Q .normal ⟨D, E, L2⟩) : behind r n P D E L2 Q none := h
/-- A range over an iterator: C tells the body's own resources by a state; the rest Lf stays az it is. -/
theorem T_range_iter {g : Operand} {c : Value} {α σ : Type} {val : α → List Value} {ok : α → List HP → Prop} {seqs : Bool → List α → Prop} {ps : Array Tmp} {assign body : Code} {N : Nat} {Lf Lr : List HP} (C : σ → List HP) (step : LS σ → α → LS σ → Prop) (cnt : σ → Nat) (s0 : σ)
    (hg : ev E g = some c) (hi : IterL P c val ok N Lf seqs) (hL : Gives L (C s0 ++ (Lf ++ Lr))) (hps : ∀ t ∈ ps, t < n) (hval : ∀ x, (val x).length = ps.size) (h0 : cnt s0 = 0) (hcnt : ∀ s x s', step s x s' → cnt s'.1 = cnt s.1 + 1)
    (hbody : ∀ l b0 s x Lx, ok x Lx → cnt s < N → T (some l) n P assign ⟨[], setE (ps.toList.zip (val x)) E, lrec l n E ps assign body b0 .ready none :: (C s ++ Lx)⟩ (fun e s1 => e = .normal ∧ ∃ L2, Gives s1.L (lrec l n E ps assign body b0 .ready none :: L2) ∧
      T (some l) n P body ⟨s1.D, s1.E, lrec l n E ps assign body b0 .busy none :: L2⟩ (fun e s2 => ∃ s' j, (match e with | .normal => j = none | .ret => j = some Code.ret | .exit id => j = some (Code.exit id) | _ => False) ∧ step (s, none) x (s', j) ∧ Gives s2.L (lrec l n E ps assign body b0 .busy none :: (C s' ++ Lx)))))
    (h : ∀ b0 xs (s : LS σ), seqs (!s.2.isNone) xs → Runs step (fun s => !s.2.isNone) (s0, none) xs s → behind none n P (mark b0 :: D) E (own0 b0 :: (C s.1 ++ (Lf ++ Lr))) Q s.2) :
    T none n P (.rangeFunc g ps assign body) ⟨D, E, L⟩ Q := by
  obtain ⟨f, fs, cs, rfl, hcall, hspec⟩ := hi
  have hy : ∀ l b0, YieldsL P l (fun s : LS σ => lcon l n E ps assign body b0 C s) val ok step (fun s => !s.2.isNone) (fun s => cnt s.1) N := by
    intro l b0 s x Lx hs hx hlt
    obtain ⟨s, j⟩ := s
    have hj : j = none := by cases j <;> simp at hs ⊢
    subst hj
    have key : YieldC P l (val x) (lrec l n E ps assign body b0 .ready none :: (C s ++ Lx)) (fun v L' => ∃ s' : LS σ, step (s, none) x s' ∧ v = .bool (!(!s'.2.isNone)) ∧ L' = lrec l n E ps assign body b0 (if s'.2.isNone then .ready else .done) s'.2 :: (C s'.1 ++ Lx)) := by
      refine YieldC_of (hval x) hps ((hbody l b0 s x Lx hx hlt).mono ?_)
      rintro e s1 ⟨rfl, L2, hg2, hb⟩
      refine ⟨rfl, L2, hg2, hb.mono ?_⟩
      rintro e s2 ⟨s', j, hj, hst, hg3⟩
      cases e with
      | normal => dsimp only at hj; subst hj; exact ⟨_, hg3, (s', none), hst, rfl, rfl⟩
      | ret => dsimp only at hj; subst hj; exact ⟨_, hg3, (s', some .ret), hst, rfl, rfl⟩
      | exit id => dsimp only at hj; subst hj; exact ⟨_, hg3, (s', some (.exit id)), hst, rfl, rfl⟩
      | goto t => exact hj.elim
      | panic c => exact hj.elim
      | outgrown => exact hj.elim
    intro r o w hw
    obtain ⟨f1, tm, az, bd, h1, h2⟩ := key r o w (hw.gives (unS_open (L := lrec l n E ps assign body b0 .ready none :: C s)))
    refine ⟨f1, tm, az, bd, h1, h2.mono ?_⟩
    rintro e w' ⟨v, L', rfl, ⟨s', k1, k2, rfl⟩, hw'⟩
    exact ⟨v, _, rfl, ⟨s', k1, k2, rfl⟩, hw'.gives (unS_close (L := lrec l n E ps assign body b0 (if s'.2.isNone then .ready else .done) s'.2 :: C s'.1))⟩
  refine T_rangeFunc (Φ' := fun l b0 v L' => ∃ xs s', seqs (!s'.2.isNone) xs ∧ Runs step (fun s => !s.2.isNone) (s0, none) xs s' ∧ L' = con l (lcon l n E ps assign body b0 C s') :: (Lf ++ own0 b0 :: Lr)) hg (fun l b0 => ?_) ?_
  · refine Fn_gives ?_ (hspec (LS σ) l (fun s => lcon l n E ps assign body b0 C s) step (fun s => !s.2.isNone) (fun s => cnt s.1) (s0, none) (own0 b0 :: Lr) rfl h0 hcnt (hy l b0))
    refine Gives.trans (Gives.cons _ (Gives.cons _ hL)) (Gives.trans (Gives.perm ?_) (unS_close (L := lrec l n E ps assign body b0 .ready none :: C s0) (L' := Lf ++ own0 b0 :: Lr)))
    show (lrec l n E ps assign body b0 .ready none :: own0 b0 :: (C s0 ++ (Lf ++ Lr))).Perm (lrec l n E ps assign body b0 .ready none :: (C s0 ++ (Lf ++ own0 b0 :: Lr)))
    refine List.Perm.cons _ ?_
    rw [← List.append_assoc, ← List.append_assoc]
    exact (List.perm_middle (l₁ := C s0 ++ Lf)).symm
  · rintro l b0 v L' ⟨xs, s', k1, k2, rfl⟩
    refine ⟨_, s'.2, own0 b0 :: (C s'.1 ++ (Lf ++ Lr)), ?_, (unS_open (L := lrec l n E ps assign body b0 (if s'.2.isNone then .ready else .done) s'.2 :: C s'.1)).trans (Gives.cons _ (Gives.perm ?_)), h b0 xs s' k1 k2⟩
    rotate_left
    · show (C s'.1 ++ (Lf ++ own0 b0 :: Lr)).Perm (own0 b0 :: (C s'.1 ++ (Lf ++ Lr)))
      rw [← List.append_assoc, ← List.append_assoc]; exact List.perm_middle
    split <;> simp
end
section
variable {P : Program} {fn : Func} {Φ : Value → List HP → Prop} {e : Exit} {E : Env} {L L2 : List HP} {b : Nat}
theorem retM1 [hf : FindHP L (own0 b) L2] (h : RetQ P fn Φ e ⟨[], E, L2⟩) : RetQM P fn Φ e ⟨[mark b], E, L⟩ := ⟨[b], L2, rfl, hf.g, h⟩
/-- The consumer that never stops. -/
theorem Runs.all {σ α : Type} {step : LS σ → α → LS σ → Prop} {s s' : LS σ} {xs : List α} (hn : ∀ s x s', step s x s' → s'.2 = none) (h : Runs step (fun s => !s.2.isNone) s xs s') (h0 : s.2 = none) : s'.2 = none := by
  induction h with
  | nil s => exact h0
  | halt a b => have := hn _ _ _ a; simp [this] at b
  | go a b c ih => exact ih (hn _ _ _ a)
end
/-! ### Ranges over functions in a loop: the marks gather -/
def owns (bs : List Nat) : HP := unS (bs.map own0)
section
variable {r : Option Nat} {n : Nat} {P : Program} {Q : Exit → St → Prop} {D : List Deferred} {E kv : Env} {L L1 L2 : List HP} {fn : Func} {Φ : Value → List HP → Prop} {e : Exit}
end
end Go.SL
set_option linter.unusedVariables false
namespace Go.SL
open Go
def hole : HP := pure True
def allH (ps : List HP) : HP := unS ps
theorem allH_take {ps : List HP} {i : Nat} {p : HP} {L : List HP} (h : ps[i]? = some p) : Gives (allH ps :: L) (p :: allH (ps.set i hole) :: L) := by
  obtain ⟨hi, he⟩ := List.getElem?_eq_some_iff.1 h
  have e1 : ps = ps.take i ++ p :: ps.drop (i + 1) := by
    conv => lhs; rw [← List.take_append_drop i ps, List.drop_eq_getElem_cons hi, he]
  have e2 : ps.set i hole = ps.take i ++ hole :: ps.drop (i + 1) := List.set_eq_take_append_cons_drop.trans (by rw [if_pos hi])
  refine (unS_open (L := ps) (L' := L)).trans ?_
  refine Gives.trans (B := p :: ((ps.take i ++ ps.drop (i + 1)) ++ L)) ?_ (Gives.cons p ?_)
  · conv => lhs; rw [e1]
    refine Gives.perm ?_
    rw [List.append_assoc, List.append_assoc, List.cons_append]
    exact List.perm_middle
  · refine (Gives.pure_intro (p := True) trivial).trans ?_
    refine Gives.trans (B := (ps.take i ++ hole :: ps.drop (i + 1)) ++ L) ?_ (by rw [← e2]; exact unS_close (L := ps.set i hole) (L' := L))
    refine Gives.perm ?_
    rw [List.append_assoc, List.append_assoc, List.cons_append]
    exact List.perm_middle.symm
theorem allH_put {ps : List HP} {i : Nat} {q : HP} {L : List HP} (hi : i < ps.length) : Gives (q :: allH (ps.set i hole) :: L) (allH (ps.set i q) :: L) := by
  have e2 : ∀ x, ps.set i x = ps.take i ++ x :: ps.drop (i + 1) := fun x => List.set_eq_take_append_cons_drop.trans (by rw [if_pos hi])
  refine (Gives.cons q (unS_open (L := ps.set i hole) (L' := L))).trans ?_
  refine Gives.trans (B := ps.set i q ++ L) ?_ (unS_close (L := ps.set i q) (L' := L))
  rw [e2, e2]
  refine Gives.trans (B := hole :: (q :: (ps.take i ++ (ps.drop (i + 1) ++ L)))) (Gives.perm ?_) ((Gives.drop _ _).trans (Gives.perm ?_))
  · rw [List.append_assoc, List.cons_append]
    refine List.Perm.trans (List.Perm.cons q List.perm_middle) (List.Perm.swap _ _ _)
  · rw [List.append_assoc, List.cons_append]
    exact List.perm_middle.symm
/-- A map, or none. -/
def mapOR : Rep (Option Nat) := ⟨1, fun _ b cs => cs = [.map b], fun _ h => h, fun h => by simp [h], fun h v hv => by rw [h] at hv; simp at hv; subst hv; rfl⟩
instance : RepF mapOR (fun b => [.map b]) := ⟨fun _ _ _ h => h⟩
/-! ### Iterators that share a resource with their consumer -/
def shr (Lsh : List HP) (p : HP) : HP := unS (p :: Lsh)
def IterS (P : Program) (c : Value) {α : Type} (val : α → List Value) (ok : α → List HP → Prop) (N : Nat) (Lsh Lf : List HP) (seqs : Bool → List α → Prop) : Prop :=
  ∃ f fs cs, c = .func (.func f) fs.toArray cs.toArray ∧ IsCall P f ∧ ∀ (τ : Type) (l : Nat) (C : τ → HP) (step : τ → α → τ → Prop) (stop : τ → Bool) (cnt : τ → Nat) (s0 : τ) (Lx : List HP), stop s0 = false → cnt s0 = 0 → (∀ s x s', step s x s' → cnt s' = cnt s + 1) → YieldsL P l (fun s => shr Lsh (C s)) val ok step stop cnt N →
    Fn P f (fs ++ [Value.func (.yield l) #[] #[]] ++ cs).toArray (con l (shr Lsh (C s0)) :: (Lf ++ Lx)) (fun v L' => ∃ xs s', seqs (stop s') xs ∧ Runs step stop s0 xs s' ∧ L' = con l (shr Lsh (C s')) :: (Lf ++ Lx))
section
variable {n : Nat} {P : Program} {Q : Exit → St → Prop} {D : List Deferred} {E : Env} {L : List HP}
end
section
variable {r : Option Nat} {n : Nat} {P : Program} {ops : Array Oper} {rest : List Oper} {K : St → Prop} {Q : Exit → St → Prop} {D : List Deferred} {E : Env} {L L1 L2 : List HP} {p q : HP} {l : Nat}
end
theorem SlN.cap {α : Type} {R : Rep α} {A : Option Addr} {c : Nat} {xs : List α} {L : List HP} (h : SlN L R A c xs) : SlN L R A xs.length xs := fun M k N hd hs hM hk => let ⟨_, b, e⟩ := h M k N hd hs hM hk; ⟨Nat.le_refl _, b, e⟩
theorem unS_snoc {β : Type} {f : β → HP} {bs : List β} {b : β} {L : List HP} : Gives (f b :: unS (bs.map f) :: L) (unS ((bs ++ [b]).map f) :: L) := by
  refine (Gives.cons (f b) (unS_open (L := bs.map f) (L' := L))).trans (Gives.trans (Gives.perm ?_) (unS_close (L := (bs ++ [b]).map f) (L' := L)))
  rw [List.map_append, List.append_assoc]
  exact List.perm_middle.symm
end Go.SL
set_option linter.unusedVariables false
set_option linter.unusedSimpArgs false
namespace Go.SL
open Go Go.Proofs
theorem cloneN_spec {L : List HP} {A : Option Addr} {c : Nat} {xs : List Int} (hk : SlN L (intR .i64) A c xs) (hb : xs.length ≤ 17592186043904) : Fn Try.prog 44 #[.slice A xs.length c] L (fun v L' => ∃ A' c', v = .slice A' xs.length c' ∧ L' = osl (intR .i64) 3 A' c' xs :: L) := by
  refine Fn_enter Try.func44 rfl rfl rfl rfl ?_
  refine T_region ?_
  refine TL_y rfl rfl (Y_assign rfl) ?_
  refine TL_nil ?_
  refine T_seq ?_
  refine T_region ?_
  refine TL_y rfl rfl (Y_move rfl) ?_
  refine TL_y rfl rfl (Y_equal rfl rfl (EqIs.slice_nil)) ?_
  refine TL_nil ?_
  refine T_if rfl (fun h4 => ?_) (fun h4 => ?_)
  · subst h4
    refine hk.none_nil fun e => ?_
    subst e
    refine T_onil (A := none) (intR .i64) 3 ?_
    refine T_region ?_
    refine TL_y rfl rfl (Y_assign rfl) ?_
    refine TL_nil ?_
    refine T_ret ?_
    refine thenS_ret ?_
    exact RetG_1 (.inl rfl) rfl (ResV.tmp rfl) GivesTo.g (⟨none, 0, rfl, rfl⟩)
  · refine T_skip ?_
    refine thenS_normal ?_
    refine T_region ?_
    refine TL_build_slice rfl rfl rfl rfl rfl rfl ?_
    intro b5
    refine TL_osl (k := 0) (intR .i64) [] (Knows.const fun M => rfl) rfl (by simp) ?_
    refine TL_name 5 (v' := .slice (some ⟨b5, 0, none⟩) ([] : List Int).length 0) rfl rfl ?_
    refine TL_y rfl rfl (Y_move rfl) ?_
    refine TL_append_n rfl rfl rfl rfl rfl hk (by simp; omega) ?_
    intro A7 c7
    refine TL_y rfl rfl (Y_assign rfl) ?_
    refine TL_nil ?_
    refine T_ret ?_
    simp only [List.nil_append]
    exact RetG_1 (.inl rfl) rfl (ResV.tmp rfl) GivesTo.g (⟨A7, c7, rfl, rfl⟩)
end Go.SL
set_option linter.unusedVariables false
set_option linter.unusedSimpArgs false
namespace Go.SL
open Go Go.Proofs
abbrev dotC (d : DotD) : List Value := [.int .i64 d.1, .int .i64 d.2]
abbrev dotV (d : DotD) : Value := .agg (List.toArray (dotC d))
def dotOk (d : DotD) : Prop := intIn .i64 d.1 ∧ intIn .i64 d.2
def dotR : Rep DotD := ⟨2, fun _ a cs => cs = dotC a ∧ dotOk a, fun _ h => h, fun h => by rw [h.1]; rfl, fun h v hv => by rw [h.1] at hv; simp at hv; rcases hv with rfl | rfl <;> rfl⟩
instance : RepF dotR dotC := ⟨fun _ _ _ h => h.1⟩
theorem ofV_at {v : List Int} {i : Nat} {x : Int} (h : v[i]? = some x) : ofV v (i : Int) = x := by
  unfold ofV; rw [if_neg (by omega), Int.toNat_natCast, h]; rfl
theorem ofV_out {v : List Int} {o : Int} (h : o < 0 ∨ (v.length : Int) ≤ o) : ofV v o = 0 := by
  unfold ofV
  split
  · rfl
  · rw [List.getElem?_eq_none (by omega)]; rfl
theorem vvOf_spec {L : List HP} {A : Option Addr} {c : Nat} {xs : List Int} (hk : SlN L (intR .i64) A c xs) (o : Int) : Fn Try.prog 14 #[.slice A xs.length c, .int .i64 o] L (fun v L' => v = .int .i64 (ofV xs o) ∧ L' = L) := by
  refine Fn_enter Try.func14 rfl rfl rfl rfl ?_
  refine T_region ?_
  refine TL_y rfl rfl (Y_assign rfl) ?_
  refine TL_nil ?_
  refine T_seq ?_
  refine T_region ?_
  refine TL_y rfl rfl (Y_move rfl) ?_
  refine TL_y rfl rfl (Y_lt rfl rfl) ?_
  refine TL_both 6 12 (o < 0 ∨ (xs.length : Int) ≤ o) ?_ ?_
  · refine TL_y rfl rfl (Y_move rfl) ?_
    refine TL_splitd 7 rfl (fun h7 => ?_) (fun h7 => ?_)
    · refine TL_gskip rfl rfl rfl rfl ?_
      refine TL_gskip rfl rfl rfl rfl ?_
      refine TL_gskip rfl rfl rfl rfl ?_
      refine TL_gskip rfl rfl rfl rfl ?_
      refine TL_y rfl rfl (Y_pick_t rfl rfl) ?_
      refine TL_chain_end rfl ?_ (by repeat (first | exact sub_refl | refine sub_ext rfl ?_)) GivesTo.g
      exact congrArg Value.bool (decide_eq_true (by omega)).symm
    · refine TL_grun rfl rfl ?_
      refine TL_y rfl rfl (Y_move rfl) ?_
      refine TL_grun rfl rfl ?_
      refine TL_y rfl rfl (Y_move rfl) ?_
      refine TL_grun rfl rfl ?_
      refine TL_y rfl rfl (Y_len rfl) ?_
      refine TL_grun rfl rfl ?_
      refine TL_y rfl rfl (Y_ge rfl rfl) ?_
      refine TL_y rfl rfl (Y_pick_f rfl rfl) ?_
      refine TL_chain_end rfl ?_ (by repeat (first | exact sub_refl | refine sub_ext rfl ?_)) GivesTo.g
      exact congrArg Value.bool (decide_eq_decide.2 (by omega))
  refine TL_nil ?_
  refine T_if rfl (fun h12 => ?_) (fun h12 => ?_)
  · refine T_region ?_
    refine TL_y rfl rfl (Y_assign rfl) ?_
    refine TL_nil ?_
    refine T_ret ?_
    refine thenS_ret ?_
    exact RetG_1 (.inl rfl) rfl (ResV.tmp rfl) GivesTo.g (⟨by rw [ofV_out h12], rfl⟩)
  · refine T_skip ?_
    refine thenS_normal ?_
    obtain ⟨i, rfl⟩ : ∃ i : Nat, o = (i : Int) := ⟨o.toNat, by omega⟩
    obtain ⟨x, hx⟩ : ∃ x, xs[i]? = some x := ⟨_, List.getElem?_eq_getElem (by omega)⟩
    refine T_addr_n hk hx fun b1 o1 e1 => ?_
    subst e1
    refine T_region ?_
    refine TL_y rfl rfl (Y_move rfl) ?_
    refine TL_y rfl rfl (Y_move rfl) ?_
    refine TL_y rfl rfl (Y_index_n (R := intR .i64) (xs := xs) rfl rfl rfl hx) ?_
    refine TL_y rfl rfl (Y_load_n (q := 0) rfl hk hx rfl) ?_
    refine TL_y rfl rfl (Y_assign rfl) ?_
    refine TL_nil ?_
    refine T_ret ?_
    exact RetG_1 (.inl rfl) rfl (ResV.tmp rfl) GivesTo.g (⟨by rw [ofV_at hx], rfl⟩)
theorem vvHas_spec {L : List HP} {A : Option Addr} {c : Nat} {xs : List Int} (hk : SlN L (intR .i64) A c xs) (d : DotD) : Fn Try.prog 18 #[.slice A xs.length c, dotV d] L (fun v L' => v = .bool (decide (hasV xs d)) ∧ L' = L) := by
  refine Fn_enter Try.func18 rfl rfl rfl rfl ?_
  refine T_region ?_
  refine TL_box rfl rfl rfl ?_
  intro b3
  refine TL_y rfl rfl (Y_assign rfl) ?_
  refine TL_nil ?_
  refine T_region_draw _ [0, 1, 3, 7, 15, 31, 15, 15, 143, 463, 1023, 2047, 4095] [] [(0, true), (1, true), (2, true), (3, true), (4, true), (5, true), (6, true), (7, true), (8, true), (9, false), (10, true), (11, true), (12, true)] (by kernel_rfl) (by decide +kernel) (Gives.refl _) ?_
  refine TF_y rfl rfl (Y_field_addr rfl) ?_
  refine TF_y rfl rfl (Y_load rfl rfl) ?_
  refine TF_y rfl rfl (Y_gt rfl rfl) ?_
  refine TF_y rfl rfl (Y_move rfl) ?_
  refine TF_splitd 8 rfl (fun h8 => ?_) (fun h8 => ?_)
  · refine TF_gy rfl rfl rfl rfl (Y_field_addr rfl) ?_
    refine TF_gy rfl rfl rfl rfl (Y_load rfl rfl) ?_
    refine TF_gy rfl rfl rfl rfl (Y_move rfl) ?_
    refine TF_gy rfl rfl rfl rfl (Y_field_addr rfl) ?_
    refine TF_gy rfl rfl rfl rfl (Y_load rfl rfl) ?_
    refine TF_anchor rfl ?_
    refine TL_grun rfl rfl ?_
    refine TL_call rfl rfl (vvOf_spec hk.tail d.1) ?_
    rintro _ _ ⟨rfl, rfl⟩
    refine TF_end GivesTo.g ?_
    refine TF_gy rfl rfl rfl rfl (Y_le rfl rfl) ?_
    refine TF_y rfl rfl (Y_pick_t rfl rfl) ?_
    refine TF_y rfl rfl (Y_assign rfl) ?_
    refine TF_nil ?_
    refine T_ret ?_
    exact RetG_1 (.inl rfl) rfl (ResV.tmp rfl) GivesTo.g (⟨congrArg Value.bool (decide_eq_decide.2 ⟨fun h => ⟨by omega, h⟩, fun h => h.2⟩), rfl⟩)
  · refine TF_gskip rfl rfl rfl rfl rfl ?_
    refine TF_gskip rfl rfl rfl rfl rfl ?_
    refine TF_gskip rfl rfl rfl rfl rfl ?_
    refine TF_gskip rfl rfl rfl rfl rfl ?_
    refine TF_gskip rfl rfl rfl rfl rfl ?_
    refine TF_anchor rfl ?_
    refine TL_gskip rfl rfl rfl rfl ?_
    refine TF_end GivesTo.g ?_
    refine TF_gskip rfl rfl rfl rfl rfl ?_
    refine TF_y rfl rfl (Y_pick_f rfl rfl) ?_
    refine TF_y rfl rfl (Y_assign rfl) ?_
    refine TF_nil ?_
    refine T_ret ?_
    exact RetG_1 (.inl rfl) rfl (ResV.tmp rfl) GivesTo.g (⟨congrArg Value.bool (decide_eq_false fun h => by have := h.1; omega).symm, rfl⟩)
/-! ### The dots between two vectors -/
def betO (a b : List Int) (o : Nat) : List DotD := (List.range ((b[o]?).getD 0 - max (ofV a o) 0).toNat).map fun i : Nat => ((o : Int), max (ofV a o) 0 + 1 + (i : Int))
def betL (a b : List Int) : List DotD := (List.range b.length).flatMap (betO a b)
abbrev betP (a b : List Int) (i : Nat) : List DotD := (List.range i).flatMap (betO a b)
abbrev btL (bx by_ : Nat) (X : Option Addr) (cx : Nat) (Y : Option Addr) (cy : Nat) (a b : List Int) : List HP := [cells bx [.slice X a.length cx] 27, osl (intR .i64) 3 X cx a, cells by_ [.slice Y b.length cy] 27, osl (intR .i64) 3 Y cy b]
end Go.SL
set_option linter.unusedVariables false
set_option linter.unusedSimpArgs false
namespace Go.SL
open Go Go.MapKept Go.WideShapes
open Go.ChangeMaps (setBlock)
section
variable {κ α : Type} {K : KeyT κ} {R : Rep α} {ag : Bool}
theorem Ents.nil {M : Mem} : Ents K R ag M [] [] := ⟨rfl, fun i e p h => by cases h⟩
theorem Ents.cons {M : Mem} {es : List MapEntry} {l : List (κ × α)} {e : MapEntry} {p : κ × α} (h1 : EntIs K R ag M e p) (h : Ents K R ag M es l) : Ents K R ag M (e :: es) (p :: l) := ⟨by simp [h.1], fun i x q hx hq => by
  cases i with
  | zero => cases hx; cases hq; exact h1
  | succ i => exact h.2 i x q (by simpa using hx) (by simpa using hq)⟩
theorem Ents.uncons {M : Mem} {es : List MapEntry} {l : List (κ × α)} {e : MapEntry} (h : Ents K R ag M (e :: es) l) : ∃ p l', l = p :: l' ∧ EntIs K R ag M e p ∧ Ents K R ag M es l' := by
  match l, h with
  | [], h => exact absurd h.1 (by simp)
  | p :: l', h => exact ⟨p, l', rfl, h.2 0 e p rfl rfl, by simpa using h.1, fun i x q hx hq => h.2 (i + 1) x q (by simpa using hx) (by simpa using hq)⟩
theorem Ents.insert {M : Mem} {e : MapEntry} {p : κ × α} (hp : EntIs K R ag M e p) : ∀ {es : List MapEntry} {j : Nat} {l : List (κ × α)}, j < es.length → Ents K R ag M (es.eraseIdx j) l → Ents K R ag M (es.set j e) (l.take j ++ p :: l.drop j)
  | x :: r, 0, l, _, h => by simpa using Ents.cons hp (by simpa using h)
  | x :: r, j + 1, l, hj, h => by
    rw [List.eraseIdx_cons_succ] at h
    obtain ⟨q, l', rfl, h1, h2⟩ := h.uncons
    simpa using Ents.cons h1 (Ents.insert hp (by simpa using hj) h2)
variable [DecidableEq κ]
structure EntI (K : KeyT κ) (es : Array MapEntry) (clock : Nat) (l : List (κ × α)) (j : Nat) (m : List (κ × α)) (k : κ) (born : Int) : Prop where
  st : Stamped es clock
  at_ : ∃ e, es.toList[j]? = some e ∧ e.key = K.enc k ∧ ((e.born : Nat) : Int) = born
  ok : K.ok k
  lp : l.Perm (delM m k)
abbrev entP (K : KeyT κ) (R : Rep α) (ag : Bool) (es : List MapEntry) (l : List (κ × α)) : HP := pers (fun M => Ents K R ag M es l) (fun hM h => h.mono hM)
abbrev entF (K : KeyT κ) (R : Rep α) (ag : Bool) (b : Nat) (m : List (κ × α)) (k : κ) (born : Int) (x : Array MapEntry × Nat × List (κ × α) × Nat) : List HP :=
  [own b (.map x.1 x.2.1), entP K R ag (x.1.toList.eraseIdx x.2.2.2) x.2.2.1, pure (EntI K x.1 x.2.1 x.2.2.1 x.2.2.2 m k born)]
/-- The map m, of which the entry of key k is laid open. -/
def omapE (K : KeyT κ) (R : Rep α) (ag : Bool) (b : Nat) (m : List (κ × α)) (k : κ) (born : Int) : HP := exH (entF K R ag b m k born)
variable {L : List HP} {b : Nat} {m : List (κ × α)} {P : Program}
theorem omapE_close {es : Array MapEntry} {clock j : Nat} {l : List (κ × α)} {k : κ} {born : Int} (h : EntI K es clock l j m k born) : Gives (own b (.map es clock) :: entP K R ag (es.toList.eraseIdx j) l :: L) (omapE K R ag b m k born :: L) :=
  Gives.trans (Gives.cons _ (Gives.cons _ (Gives.pure_intro h))) (exH_close (f := entF K R ag b m k born) (es, clock, l, j))
theorem omapE_open {k : κ} {born : Int} {W w : World} (h : Sat W w (omapE K R ag b m k born :: L)) : ∃ es clock l j, EntI K es clock l j m k born ∧ Sat W w (own b (.map es clock) :: entP K R ag (es.toList.eraseIdx j) l :: L) := by
  obtain ⟨⟨es, clock, l, j⟩, hp⟩ := exH_open h
  have h2 := hp.gives (Gives.pull 2 (entF K R ag b m k born (es, clock, l, j) ++ L))
  obtain ⟨M, q, hd, hM, hk, h1, h3, hd', l1, l2, hq, hs⟩ := h2.ex
  exact ⟨es, clock, l, j, hq, h2.gives (Gives.drop _ _)⟩
theorem ent_run {t kt et : TypeId} {z : Value} [ht : TyDesc P t (.map kt et)] [hk : KeyOk P kt K] [hz : TyZero P et z] {k : κ} (hok : K.ok k) {W w : World} (hs : Sat W w (omap K R ag b m :: L)) :
    (getM m k = none ∧ ∃ (born : Int) (w' : World), (Instr.mapEntry t (.map (some b)) (K.enc k)).run P w = .ok (.tuple #[z, .int .i64 born]) w' ∧ Sat W w' (omapE K R ag b m k born :: L)) ∨
    ∃ u cs born w', getM m k = some u ∧ (Instr.mapEntry t (.map (some b)) (K.enc k)).run P w = .ok (.tuple #[wrapV ag cs, .int .i64 born]) w' ∧ Sat W w' (is R u cs :: omapE K R ag b m k born :: L) := by
  obtain ⟨es, clock, l, hst, hp, hs1⟩ := omap_open hs
  have hbw : w.heap[b]? = some (.map es clock) := hs1.own_at
  obtain ⟨M, q0, hd0, hM0, hq0, x1, x2, xd, y1, y2, ho0, x3, x4, xd', y3, y4, he, hsep0⟩ := hs1.ex
  have he : Ents K R ag M es.toList l := he
  have hnd : ND l := he.nd ((stamped_iff es clock).1 hst).2.2
  obtain ⟨lx, hlx⟩ := hk.key k hok
  have hc := check_run (P := P) (kt := kt) hok false w
  have hstay := hk.law.stays w hlx
  rcases find_run (P := P) (kt := kt) hok hst hp he w with ⟨g1, g2, g3⟩ | ⟨j, e, u0, cs0, g1, g2, g3, g4, g5, g6, g7⟩
  · refine .inl ⟨g1, (clock : Int), setBlock w b (.map (es.push ⟨K.enc k, z, clock⟩) (clock + 1)), ?_, (sat_setBlock hs1).gives (Gives.trans ?_ (omapE_close (l := l) (j := es.size) ⟨stamped_push (val := z) hst g3, ⟨⟨K.enc k, z, clock⟩, by simp, rfl, rfl⟩, hok, by rw [del_none g1]; exact hp⟩))⟩
    · simp [Instr.mapEntry, ht.run, MapKept.run_getObj_map hbw, hc, g2, hz.run, MapKept.run_setObj_map _ hbw, Result.andThen, setBlock, goInt]
    · intro N q ⟨a1, a2, ad, b1, b2, ho, a3, a4, ad', b3, b4, hen, hsep⟩
      refine ⟨a1, a2, ad, b1, b2, ho, a3, a4, ad', b3, b4, ?_, hsep⟩
      show Ents K R ag N ((es.push ⟨K.enc k, z, clock⟩).toList.eraseIdx es.size) l
      have e1 : (es.push ⟨K.enc k, z, clock⟩).toList.eraseIdx es.size = es.toList := by
        rw [Array.toList_push, List.eraseIdx_append_of_length_le (by simp)]
        simp
      rw [e1]; exact hen
  · have hj : es[j]? = some e := by simpa using g3
    have hlist : (es.modify j (fun e' => { e' with key := K.enc k })).toList = es.toList := by
      rw [Array.toList_modify, ChangeMaps.modify_eq_set _ _ _ _ g3]
      refine set_same (by rw [g3, ← g4])
    refine .inr ⟨u0, cs0, (e.born : Int), setBlock w b (.map (es.modify j (fun e' => { e' with key := K.enc k })) clock), g1, ?_, ?_⟩
    · rw [← g7]
      simp [Instr.mapEntry, ht.run, MapKept.run_getObj_map hbw, hc, g2, hj, g4, hstay, MapKept.run_setObj_map _ hbw, Result.andThen, setBlock, goInt]
    · have hs2 : Sat W (setBlock w b (.map (es.modify j (fun e' => { e' with key := K.enc k })) clock)) (own b (.map (es.modify j (fun e' => { e' with key := K.enc k })) clock) :: is R u0 cs0 :: entP K R ag (es.toList.eraseIdx j) (l.eraseIdx j) :: L) := by
        have h3 : Sat W w (own b (.map es clock) :: is R u0 cs0 :: entP K R ag (es.toList.eraseIdx j) (l.eraseIdx j) :: L) :=
          ⟨⟨M, q0, hd0, hM0, hq0, x1, x2, xd, y1, y2, ho0, Mem.emp, x2, Mem.emp_disj _, Mem.emp_le _, Mem.le_refl _, g6, x3, x4, xd', y3, y4, Ents.erase he j, hsep0⟩, hs1.os, hs1.tape, hs1.output, hs1.size⟩
        exact sat_setBlock h3
      refine hs2.gives ((Gives.swap _ _ _).trans (Gives.cons _ (Gives.trans ?_ (omapE_close (l := l.eraseIdx j) (j := j) ⟨stamped_modify hst j (fun e' => { e' with key := K.enc k }) (fun _ _ => rfl) (fun e' _ he' => by rw [hj] at he'; cases he'; exact g4.symm), ⟨e, by rw [hlist]; exact g3, g4, rfl⟩, hok, by rw [← delM_erase hnd g5]; exact delM_perm hp k⟩))))
      rw [hlist]
      exact Gives.refl _
theorem store_run {t : TypeId} {k : κ} {born : Int} {u : α} {cs : List Value} {m' : List (κ × α)} (hr : Knows L (fun M => R.rep M u cs)) (hm : ((k, u) :: delM m k).Perm m') {W w : World} (hs : Sat W w (omapE K R ag b m k born :: L)) :
    ∃ w', (Instr.entryStore t (.map (some b)) (.int .i64 born) (wrapV ag cs)).run P w = .ok () w' ∧ Sat W w' (omap K R ag b m' :: L) := by
  obtain ⟨es, clock, l, j, hI, hs1⟩ := omapE_open hs
  have hbw : w.heap[b]? = some (.map es clock) := hs1.own_at
  obtain ⟨e, hj, hk, hb⟩ := hI.at_
  have hja : es[j]? = some e := by simpa using hj
  have hjl : j < es.toList.length := (List.getElem?_eq_some_iff.1 hj).1
  have hst := (stamped_iff es clock).1 hI.st
  have hfind : es.findIdx? (fun e => ((e.born : Nat) : Int) == born) = some j := by
    rw [WideElems.findIdx_arr, ← hb]
    exact WideElems.findIdx_born hst.2.1 hj
  have hlist : (es.modify j (fun e' => { e' with val := wrapV ag cs })).toList = es.toList.set j { e with val := wrapV ag cs } := by rw [Array.toList_modify, ChangeMaps.modify_eq_set _ _ _ _ hj]
  refine ⟨setBlock w b (.map (es.modify j (fun e' => { e' with val := wrapV ag cs })) clock), ?_, (sat_setBlock hs1).gives (Gives.trans ?_ (omap_close (l := l.take j ++ (k, u) :: l.drop j) (stamped_modify hI.st j (fun e' => { e' with val := wrapV ag cs }) (fun _ _ => rfl) (fun _ _ _ => rfl)) ?_))⟩
  · simp [Instr.entryStore, MapKept.run_getObj_map hbw, asInt, asIntOf, hfind, MapKept.run_setObj_map _ hbw, Result.andThen, setBlock]
  · intro N q ⟨a1, a2, ad, b1, b2, ho, a3, a4, ad', b3, b4, hen, hsep⟩
    refine ⟨a1, a2, ad, b1, b2, ho, a3, a4, ad', b3, b4, ?_, hsep⟩
    show Ents K R ag N (es.modify j _).toList _
    rw [hlist]
    exact Ents.insert ⟨hk, hI.ok, cs, hr N a4 hsep, rfl⟩ hjl hen
  · refine List.Perm.trans ?_ hm
    refine List.perm_middle.trans (List.Perm.cons _ ?_)
    rw [List.take_append_drop]
    exact hI.lp
section rules
variable {r : Option Nat} {n : Nat} {ops : Array Oper} {rest : List Oper} {KK : St → Prop} {Q : Exit → St → Prop} {D : List Deferred} {E : Env} {L0 : List HP} {d : Nat} {ty : TypeId} {pos : String} {af : Array Edge}
theorem TL_mapEntry {x y : Operand} {t kt et : TypeId} {z : Value} {k : κ} [ht : TyDesc P t (.map kt et)] [hf : FindM L b κ α K R ag m L0] [hk : KeyOk P kt K] [hz : TyZero P et z] (hd : Nat.blt d n = true) (hx : ev E x = some (.map (some b))) (hy : ev E y = some (K.enc k)) (hok : K.ok k)
    (h0 : ∀ born, getM m k = none → TL r n P ops rest ⟨D, (d, .tuple #[z, .int .i64 born]) :: E, omapE K R ag b m k born :: L0⟩ KK)
    (h1 : ∀ u cs born, getM m k = some u → TL r n P ops rest ⟨D, (d, .tuple #[wrapV ag cs, .int .i64 born]) :: E, is R u cs :: omapE K R ag b m k born :: L0⟩ KK) :
    TL r n P ops (⟨some d, .mapEntry t x y, ty, pos, af, none⟩ :: rest) ⟨D, E, L⟩ KK :=
  TL_val rfl hd rfl (fun _ e => by cases e) fun W a w hh => by
    rcases ent_run (P := P) (t := t) (kt := kt) (et := et) (z := z) hok (hh.2.gives hf.g) with ⟨g1, born, w', g2, g3⟩ | ⟨u, cs, born, w', g1, g2, g3⟩
    · exact ⟨_, w', _, by simp [execOp, hh.1.ev hx, hh.1.ev hy, g2], g3, h0 born g1⟩
    · exact ⟨_, w', _, by simp [execOp, hh.1.ev hx, hh.1.ev hy, g2], g3, h1 u cs born g1⟩
class FindE (L : List HP) (b : Nat) (κ : outParam Type) (α : outParam Type) (K : outParam (KeyT κ)) (R : outParam (Rep α)) (ag : outParam Bool) (hd : outParam (DecidableEq κ)) (m : outParam (List (κ × α))) (k : outParam κ) (born : outParam Int) (L' : outParam (List HP)) : Prop where
  g : Gives L (@omapE κ α hd K R ag b m k born :: L')
instance findE_tail {p : HP} {L L' : List HP} {b : Nat} {κ α : Type} {K : KeyT κ} {R : Rep α} {ag : Bool} {hd : DecidableEq κ} {m : List (κ × α)} {k : κ} {born : Int} [h : FindE L b κ α K R ag hd m k born L'] : FindE (p :: L) b κ α K R ag hd m k born (p :: L') := ⟨(Gives.cons p h.g).trans (Gives.swap p _ _)⟩
instance findE_head {L : List HP} {b : Nat} {κ α : Type} {K : KeyT κ} {R : Rep α} {ag : Bool} {hd : DecidableEq κ} {m : List (κ × α)} {k : κ} {born : Int} : FindE (@omapE κ α hd K R ag b m k born :: L) b κ α K R ag hd m k born L := ⟨Gives.refl _⟩
theorem TL_entryStore {x s y : Operand} {t : TypeId} {k : κ} {born : Int} {u : α} {cs : List Value} (m' : List (κ × α)) [hf : FindE L b κ α K R ag ‹_› m k born L0] (hx : ev E x = some (.map (some b))) (hs : ev E s = some (.int .i64 born)) (hy : ev E y = some (wrapV ag cs)) (hr : Knows L0 (fun M => R.rep M u cs)) (hm : ((k, u) :: delM m k).Perm m')
    (h : TL r n P ops rest ⟨D, E, omap K R ag b m' :: L0⟩ KK) : TL r n P ops (⟨none, .entryStore t x s y, ty, pos, af, none⟩ :: rest) ⟨D, E, L⟩ KK :=
  TL_skip rfl rfl (fun _ e => by cases e) fun W a w hh => by
    obtain ⟨w', g1, g2⟩ := store_run (P := P) (t := t) hr hm (hh.2.gives hf.g)
    exact ⟨_, w', _, by simp [execOp, hh.1.ev hx, hh.1.ev hs, hh.1.ev hy, g1], .inl rfl, g2, h⟩
end rules
end
end Go.SL
set_option linter.unusedVariables false
set_option linter.unusedSimpArgs false
namespace Go.SL
open Go Go.RowKit Go.ChangeShapes Go.WideShapes

theorem list_of {α : Type} {p : Nat → α → Prop} : ∀ (n : Nat), (∀ i, i < n → ∃ a, p i a) → ∃ xs : List α, xs.length = n ∧ ∀ i a, xs[i]? = some a → p i a
  | 0, _ => ⟨[], rfl, fun i a h => by simp at h⟩
  | n + 1, h => by
    obtain ⟨xs, h1, h2⟩ := list_of n (fun i hi => h i (by omega))
    obtain ⟨a, ha⟩ := h n (by omega)
    refine ⟨xs ++ [a], by simp [h1], fun i b hb => ?_⟩
    by_cases hi : i < xs.length
    · rw [List.getElem?_append_left hi] at hb; exact h2 i b hb
    · rw [List.getElem?_append_right (by omega)] at hb
      have : i = n := by
        have := (List.getElem?_eq_some_iff.1 hb).1
        simp at this; omega
      subst this
      rw [h1] at hb
      simp at hb
      subst hb; exact ha
theorem mapM_at {α β : Type} {f : α → Option β} : ∀ {l : List α} {r : List β}, l.mapM f = some r → r.length = l.length ∧ ∀ (i : Nat) (x : α), l[i]? = some x → f x = r[i]?
  | [], r, h => by simp at h; subst h; simp
  | x :: l, r, h => by
    simp only [List.mapM_cons] at h
    cases e : f x with
    | none => rw [e] at h; cases h
    | some y =>
      rw [e] at h
      cases e2 : l.mapM f with
      | none => rw [e2] at h; cases h
      | some r' =>
        rw [e2] at h
        cases h
        obtain ⟨h1, h2⟩ := mapM_at e2
        refine ⟨by simp [h1], fun i z hz => ?_⟩
        cases i with
        | zero => simp at hz; subst hz; simpa using e
        | succ i => simpa using h2 i z (by simpa using hz)

/-- A way to count what is read: each value, each letter. -/
structure Bulk (H : Type) where
  f : DataW H → Nat
  one : ∀ d, 1 ≤ f d
  str : ∀ b, b.length + 1 ≤ f (.lit (.string b))
  slice : ∀ e s, (e.map f).sum + 1 ≤ f (.slice e s)
  agg : ∀ ps, (ps.map f).sum + 1 ≤ f (.agg ps)
  ptr : ∀ d, f d + 1 ≤ f (.ptr d)
/-- What is read of type t, of whatever world, is laid as R tells, and bears φ; μ counts it. -/
def Reads {α : Type} (P : Program) (t : TypeId) (R : Rep α) (φ : α → Prop) (μ : α → Nat) : Prop :=
  ∀ (H : Type) (enc : TypeId × Value → H) (W : World) (held : Bool) (fuel : Nat) (cs : List Value) (d : DataW H) (ps : List MemPlace), DataW.trod enc P W 0 (fun _ => true) held fuel t cs = some (d, ps) → (∀ n ∈ d.weights P t, n ≤ reachBytes) →
    ∃ a, R.rep (heapOf W) a cs ∧ φ a ∧ ∀ B : Bulk H, μ a ≤ B.f d
theorem reach_eq : reachBytes = 140737488351232 := rfl
section
variable {P : Program} {t e : TypeId}
theorem wf_in {k : IntKind} {n : Int} (h : (Lit.int k n).wf = true) : intIn k n := by
  simp only [Lit.wf, Bool.and_eq_true, decide_eq_true_eq] at h
  exact h
theorem reads_int {k : IntKind} (ht : P.underlying t = some (.int k)) : Reads P t (intR k) (fun _ => True) (fun _ => 1) := fun H enc W held fuel cs d ps h hw => by
  obtain ⟨n, rfl, hx, hwf⟩ := DataW.trod_int ht h
  exact ⟨n, ⟨rfl, wf_in hwf⟩, trivial, fun B => B.one d⟩
theorem reads_bool (ht : P.underlying t = some .bool) : Reads P t boolR (fun _ => True) (fun _ => 1) := fun H enc W held fuel cs d ps h hw => by
  obtain ⟨b, rfl, hx⟩ := DataW.trod_bool ht h
  exact ⟨b, rfl, trivial, fun B => B.one d⟩
theorem reads_str (ht : P.underlying t = some .string) : Reads P t strR (fun s => s.size ≤ 140737488351232) (fun s => s.size + 1) := fun H enc W held fuel cs d ps h hw => by
  obtain ⟨s, rfl, hx, hs⟩ := DataW.trod_string ht h
  cases hx
  have := hw s.data.toList.length (by simp [DataW.weights])
  rw [reach_eq] at this
  have hsz : s.size = s.data.toList.length := Lib.size_eq s
  exact ⟨s, ⟨rfl, by rw [hsz]; simp only [maxEl]; omega⟩, by show s.size ≤ _; rw [hsz]; exact this, fun B => by show s.size + 1 ≤ _; rw [hsz]; exact B.str _⟩
/-- A slice, of whatever address. -/
def sliceR {α : Type} (R : Rep α) : Rep (List α) := ⟨1, fun M xs cs => ∃ A c, cs = [.slice A xs.length c] ∧ sliceAt M R A c xs, fun hM ⟨A, c, e, h⟩ => ⟨A, c, e, h.mono hM⟩, fun ⟨A, c, e, h⟩ => by rw [e]; rfl, fun ⟨A, c, e, h⟩ v hv => by rw [e] at hv; simp at hv; subst hv; rfl⟩
theorem weightsAll_mem {H : Type} {d : DataW H} {n : Nat} : ∀ {l : List (DataW H)}, d ∈ l → n ∈ d.weights P e → n ∈ DataW.weightsAll P e l
  | x :: l, hd, hn => by
    simp only [DataW.weightsAll, List.mem_append]
    rcases List.mem_cons.1 hd with rfl | hd
    · exact .inl hn
    · exact .inr (weightsAll_mem hd hn)
  | [], hd, _ => by cases hd
theorem sum_le_sum {α β : Type} {f : α → Nat} {g : β → Nat} : ∀ {xs : List α} {ys : List β}, xs.length = ys.length → (∀ (i : Nat) (x : α) (y : β), xs[i]? = some x → ys[i]? = some y → f x ≤ g y) → (xs.map f).sum ≤ (ys.map g).sum
  | [], [], _, _ => by simp
  | x :: xs, y :: ys, hl, h => by
    have h0 := h 0 x y rfl rfl
    have ih := sum_le_sum (xs := xs) (ys := ys) (by simpa using hl) (fun i a b ha hb => h (i + 1) a b (by simpa using ha) (by simpa using hb))
    simp only [List.map_cons, List.sum_cons]
    omega
  | [], _ :: _, hl, _ => by simp at hl
  | _ :: _, [], hl, _ => by simp at hl
theorem reads_slice {α : Type} {R : Rep α} {φ : α → Prop} {μ : α → Nat} (ht : P.underlying t = some (.slice e)) (hsz : P.cellsOf e = R.sz) (h0 : 0 < R.sz) (hb : 0 < P.bytesOf e) (he : Reads P e R φ μ) : Reads P t (sliceR R) (fun xs => xs.length * P.bytesOf e ≤ 140737488351232 ∧ ∀ x ∈ xs, φ x) (fun xs => (xs.map μ).sum + 1) := fun H enc W held fuel cs d ps h hw => by
  rcases DataW.trod_slice ht h with ⟨rfl, hx⟩ | ⟨a, len, cap, elems, rest, n, rfl, rfl, hx, _, hl, hm, hlen, hel, hsp, _⟩
  · exact ⟨[], ⟨none, 0, rfl, sliceAt.nil _ _ _ _⟩, ⟨by simp, fun x hx => by cases hx⟩, fun B => B.one d⟩
  · cases hx
    have hwt : ∀ n ∈ ((elems.map (·.1)).length + (rest.map (·.1)).length) * P.bytesOf e :: (DataW.weightsAll P e (elems.map (·.1)) ++ DataW.weightsAll P e (rest.map (·.1))), n ≤ reachBytes := by
      intro n hn; exact hw n (by simpa [DataW.weights, ht] using hn)
    have hbound : len * P.bytesOf e ≤ 140737488351232 := by
      have := hwt _ (List.mem_cons_self)
      rw [reach_eq] at this
      simp only [List.length_map, hlen] at this
      exact Nat.le_trans (Nat.mul_le_mul_right _ (by omega)) this
    have hle : len ≤ 140737488351232 := Nat.le_trans (Nat.le_mul_of_pos_right _ hb) hbound
    have hall : ∀ i, i < len → ∃ x : α, ((∃ l, R.rep (heapOf W) x l ∧ ∀ j v, l[j]? = some v → W.cell? ((a.add (i * R.sz)).add j) = some v) ∧ φ x) ∧ ∀ y, elems[i]? = some y → ∀ B : Bulk H, μ x ≤ B.f y.1 := by
      intro i hi
      have h1 := hel i hi
      rw [hsz, List.getElem?_eq_getElem (by omega)] at h1
      cases hc : World.cells? W 0 (a.add (i * R.sz)) R.sz with
      | none => rw [hc] at h1; cases h1
      | some cs' =>
        rw [hc] at h1
        simp only [Option.bind_some] at h1
        obtain ⟨x, hx1, hx2, hx3⟩ := he H enc W held n cs' (elems[i]'(by omega)).1 (elems[i]'(by omega)).2 h1 (fun k hk => hwt k (List.mem_cons_of_mem _ (List.mem_append_left _ (weightsAll_mem (List.mem_map.2 ⟨_, List.getElem_mem (by omega), rfl⟩) hk))))
        refine ⟨x, ⟨⟨cs', hx1, fun j v hj => ?_⟩, hx2⟩, fun y hy B => by rw [List.getElem?_eq_getElem (by omega)] at hy; cases hy; exact hx3 B⟩
        simp only [World.cells?, Nat.zero_le, if_true] at hc
        obtain ⟨g1, g2⟩ := mapM_at hc
        have hjl := (List.getElem?_eq_some_iff.1 hj).1
        have := g2 j j (by rw [List.getElem?_range (by simpa [g1] using hjl)])
        rw [this, hj]
    obtain ⟨xs, hxl, hxs⟩ := list_of len hall
    subst hxl
    refine ⟨xs, ⟨some a, cap, rfl, hl, by simp only [maxEl]; omega, ?_⟩, ⟨hbound, fun x hx => let ⟨i, hi⟩ := List.getElem?_of_mem hx; (hxs i x hi).1.2⟩, fun B => ?_⟩
    · cases xs with
      | nil => exact .inl rfl
      | cons x0 xs =>
        right
        obtain ⟨⟨⟨l0, hr0, hc0⟩, _⟩, _⟩ := hxs 0 x0 rfl
        have hl0 := R.len hr0
        obtain ⟨v0, hv0⟩ : ∃ v, l0[0]? = some v := ⟨_, List.getElem?_eq_getElem (by omega)⟩
        have h00 := hc0 0 v0 hv0
        obtain ⟨b, off, spot⟩ := a
        have hspot : spot = none := by simpa [Addr.add] using World.cell?_spot h00
        subst hspot
        obtain ⟨c, t', fr, hblk⟩ : ∃ c t' fr, W.heap[b]? = some (.cells c t' fr) := by
          simp only [World.cell?, Addr.add_plain] at h00
          split at h00
          · exact ⟨_, _, _, by assumption⟩
          · cases h00
        refine ⟨b, off, rfl, c, t', fr, hblk, fun i x hi => ?_⟩
        obtain ⟨⟨⟨l, hr, hc⟩, _⟩, _⟩ := hxs i x hi
        refine ⟨l, hr, fun j v hj => ?_⟩
        have := hc j v hj
        rw [Addr.add_plain, Addr.add_plain, cell_of hblk] at this
        exact this
    · refine Nat.le_trans ?_ (B.slice _ _)
      have := sum_le_sum (f := μ) (g := fun y : DataW H × List MemPlace => B.f y.1) (xs := xs) (ys := elems) hlen.symm (fun i x y hx hy => (hxs i x hx).2 y hy B)
      simp only [List.map_map]
      show (xs.map μ).sum + 1 ≤ _
      have e2 : (B.f ∘ fun x : DataW H × List MemPlace => x.1) = fun y => B.f y.1 := rfl
      rw [e2]
      omega
theorem sum_ge {α : Type} {μ : α → Nat} (h : ∀ x, 1 ≤ μ x) : ∀ xs : List α, xs.length ≤ (xs.map μ).sum
  | [] => by simp
  | x :: xs => by have := sum_ge h xs; have := h x; simp only [List.length_cons, List.map_cons, List.sum_cons]; omega
/-- One argument. -/
theorem arg_reads {α : Type} {R : Rep α} {φ : α → Prop} {μ : α → Nat} (hr : Reads P t R φ μ) {H : Type} {enc : TypeId × Value → H} {W : World} {v : Value} {d : DataW H} {ps : List MemPlace} (h : DataW.Trod enc P W 0 (fun _ => true) true t v d ps) (hw : ∀ n ∈ d.weights P t, n ≤ reachBytes) : ∃ a, R.rep (heapOf W) a v.cells.toList ∧ φ a ∧ ∀ B : Bulk H, μ a ≤ B.f d :=
  let ⟨fuel, h⟩ := h
  hr H enc W true fuel _ d ps h hw
theorem arg_slice {α : Type} {R : Rep α} {φ : List α → Prop} {μ : List α → Nat} (ht : P.underlying t = some (.slice e)) (hr : Reads P t (sliceR R) φ μ) {H : Type} {enc : TypeId × Value → H} {W : World} {base : Nat} {v : Value} {d : DataW H} {ps : List MemPlace} (hval : Value.okWide P W .any base t v) (h : DataW.Trod enc P W 0 (fun _ => true) true t v d ps) (hw : ∀ n ∈ d.weights P t, n ≤ reachBytes) :
    ∃ A c xs, v = .slice A xs.length c ∧ sliceAt (heapOf W) R A c xs ∧ φ xs ∧ ∀ B : Bulk H, μ xs ≤ B.f d := by
  obtain ⟨A, n, c, rfl⟩ := okWide_slice ht hval
  obtain ⟨xs, ⟨A', c', e, h1⟩, h2⟩ := arg_reads hr h hw
  simp only [Value.cells, List.cons.injEq, and_true] at e
  cases e
  exact ⟨_, _, xs, rfl, h1, h2⟩
theorem arg_str (ht : P.underlying t = some .string) {H : Type} {enc : TypeId × Value → H} {W : World} {base : Nat} {v : Value} {d : DataW H} {ps : List MemPlace} (hval : Value.okWide P W .any base t v) (h : DataW.Trod enc P W 0 (fun _ => true) true t v d ps) (hw : ∀ n ∈ d.weights P t, n ≤ reachBytes) : ∃ s : ByteArray, v = .string s ∧ s.size ≤ 140737488351232 ∧ ∀ B : Bulk H, s.size + 1 ≤ B.f d := by
  obtain ⟨s, rfl⟩ := okWide_string ht hval
  obtain ⟨s', ⟨e, _⟩, h2⟩ := arg_reads (reads_str ht) h hw
  simp only [Value.cells, List.cons.injEq, and_true] at e
  cases e
  exact ⟨_, rfl, h2⟩
end

section
variable {P : Program} {t : TypeId} {H : Type} {enc : TypeId × Value → H} {W : World} {held : Bool}
theorem weightsEach_mem {k : Nat} : ∀ {ts : List TypeId} {ds : List (DataW H)} {i : Nat} {t : TypeId} {d : DataW H}, ts[i]? = some t → ds[i]? = some d → k ∈ d.weights P t → k ∈ DataW.weightsEach P ts ds :=
  fun ht hd hk => DataW.weights_mem_each ht hd _ hk
/-- A record is read field by field. -/
theorem reads_fields {fs : Array Field} {fuel : Nat} {cs : List Value} {d : DataW H} {ps : List MemPlace} (ht : P.underlying t = some (.struct fs)) (h : DataW.trod enc P W 0 (fun _ => true) held fuel t cs = some (d, ps)) (hw : ∀ n ∈ d.weights P t, n ≤ reachBytes) :
    ∃ (ds : List (DataW H)) (n : Nat), d = .agg ds ∧ cs.length = P.cellsOf t ∧ ds.length = fs.size ∧ ∀ (i : Nat) (f : Field), fs[i]? = some f → ∃ d' ps', ds[i]? = some d' ∧ DataW.trod enc P W 0 (fun _ => true) held n f.type ((cs.drop f.offset).take (P.cellsOf f.type)) = some (d', ps') ∧ ∀ k ∈ d'.weights P f.type, k ≤ reachBytes := by
  obtain ⟨xs, n, _, hx, hl, hlen, hf⟩ := DataW.trod_struct ht h
  cases hx
  refine ⟨_, n, rfl, hl, by simp [hlen], fun i f hi => ?_⟩
  have hil : i < xs.length := by rw [hlen]; exact (Array.getElem?_eq_some_iff.1 hi).1
  have h1 := hf i f hi
  rw [List.getElem?_eq_getElem hil] at h1
  refine ⟨xs[i].1, xs[i].2, by simp [hil], h1, fun k hk => hw k ?_⟩
  simp only [DataW.weights, ht]
  exact weightsEach_mem (i := i) (t := f.type) (d := xs[i].1) (by simp [hi]) (by simp [hil]) hk
end
/-! ### What is kept -/
theorem sat_init {W : World} {L : List HP} (h : Sep L (heapOf W) Mem.emp) : Sat W W L := ⟨⟨heapOf W, Mem.emp, Mem.disj_symm (Mem.emp_disj _), Mem.le_refl _, Mem.emp_le _, h⟩, rfl, rfl, rfl, Nat.le_refl _⟩
theorem sep_nil {M : Mem} : Sep [] M Mem.emp := trivial
theorem sep_cons {M : Mem} {p : HP} {L : List HP} (h : p.holds M Mem.emp) (k : Sep L M Mem.emp) : Sep (p :: L) M Mem.emp := ⟨Mem.emp, Mem.emp, Mem.emp_disj _, Mem.le_refl _, Mem.le_refl _, h, k⟩
theorem below_of {W w' : World} {L : List HP} (h : Sat W w' (base (heapOf W) :: L)) : Below W.heap.size W w' := by
  obtain ⟨M, k, hd, hM, hk, h1, h2, hd', l1, l2, hp, hs⟩ := h.ex
  refine ⟨h.os, h.tape, h.output, h.size, fun j hj => ?_⟩
  have e : heapOf W j = some (W.heap[j]'hj) := Array.getElem?_eq_getElem hj
  have := hM _ _ (hp _ _ e)
  rw [Array.getElem?_eq_getElem hj]
  exact this
theorem law_calls {P : Program} {f : FuncId} {args : Array Value} {W : World} {L : List HP} (hs : Sep (base (heapOf W) :: L) (heapOf W) Mem.emp) (h : Fn P f args (base (heapOf W) :: L) (fun v L' => v = .bool true ∧ L' = base (heapOf W) :: L)) : Calls P f args W fun e W' => e = .returned (.bool true) ∧ Below W.heap.size W W' :=
  (h W W (sat_init hs)).mono fun e w' ⟨v, L', he, ⟨hv, hL⟩, hsat⟩ => by
    subst he; subst hv; subst hL
    exact ⟨rfl, below_of hsat⟩
theorem trodAll_below {H : Type} {enc : TypeId × Value → H} {P : Program} {W W' : World} (hl : laidOutB P = true) (hb : Below W.heap.size W W') : ∀ {ts : List TypeId} {vs : List Value} {ds : List (DataW H)} {ps : List MemPlace}, ts.all (fun t => P.readableRec t && decide (t < P.types.size)) = true → DataW.TrodAll enc P W 0 (fun _ => true) true ts vs ds ps → (∀ x ∈ ps, x.block < W.heap.size) →
    DataW.TrodAll enc P W' 0 (fun b => decide (b < W.heap.size)) true ts vs ds ps
  | [], _, _, _, _, h, _ => by
    obtain ⟨rfl, rfl, rfl⟩ := trodAll_nil h
    exact trodAll_mk0
  | t :: ts, vs, ds, ps, hts, h, hp => by
    obtain ⟨v, vs1, d, ds1, a, b, rfl, rfl, rfl, h1, h2⟩ := trodAll_cons h
    simp only [List.all_cons, Bool.and_eq_true, decide_eq_true_eq] at hts
    exact trodAll_cons_mk (Below.trod hl hts.1.1 hts.1.2 h1 hb (fun x hx => hp x (List.mem_append_left _ hx))) (trodAll_below hl hb hts.2 h2 (fun x hx => hp x (List.mem_append_right _ hx)))
theorem post_true {H : Type} {enc : TypeId × Value → H} {P : Program} {f : Func} {s : ChangeSpec} {apart fresh handsOn : Bool} {W W' : World} {args : Array Value} {ds gs : List (DataW H)} {before : List MemPlace} {tb : TypeId}
    (hW : DataW.Whole enc P f.params.toList s.vars apart W args.toList ds gs before) (hb : Below W.heap.size W W') (hl : laidOutB P = true) (hts : f.params.toList.all (fun t => P.readableRec t && decide (t < P.types.size)) = true) (hr : f.resultTypes = #[tb]) (htb : P.underlying tb = some .bool) (hv : s.vars = [])
    (hfn : s.fn H (ds ++ gs) = { results := [.lit (.bool true)], args := ds }) : s.post enc P f apart fresh handsOn false W args (.bool true) W' := by
  have hW' := hW
  obtain ⟨p, q, hA, hV, rfl, hfz, hnd⟩ := hW
  rw [hv] at hV
  obtain ⟨rfl, rfl⟩ := trodVars_none hV
  refine ⟨ds, [], p ++ [], [], p, [], hW', ?_, ?_, ?_, hb.frame _, fun h => by cases h⟩
  · rw [hfn, hr]
    exact trodAll_cons_mk (shut_bool htb true) trodAll_mk0
  · rw [hfn]
    exact trodAll_below hl hb hts hA (fun x hx => by simpa using hW'.lt x (by simpa using hx))
  · rw [hfn, hv]
    exact (by simp [DataW.TrodVars])
end Go.SL
set_option linter.unusedVariables false
set_option linter.unusedSimpArgs false
namespace Go.SL
open Go Go.Proofs
abbrev evV (e : EventD) (p : Option Addr × Nat) : Value := .agg (List.toArray (eventC e p))
theorem ctCopied_spec {L : List HP} (e : EventD) (p : Option Addr × Nat) (hk : SlN L (intR .i64) p.1 p.2 e.deps) (ho : eventOk e) : Fn Try.prog 72 #[evV e p] L (fun r L' => ∃ q, r = evV e q ∧ L' = osl (intR .i64) 3 q.1 q.2 e.deps :: L) := by
  refine Fn_enter Try.func72 rfl rfl rfl rfl ?_
  refine T_region ?_
  refine TL_box rfl rfl rfl ?_
  intro b1
  refine TL_alloc rfl rfl ?_
  intro b2
  refine TL_nil ?_
  refine T_region ?_
  refine TL_y rfl rfl (Y_field_addr rfl) ?_
  refine TL_y rfl rfl (Y_load rfl rfl) ?_
  refine TL_call rfl rfl (cloneN_spec hk.tail.tail ho.2.2.1) ?_
  rintro _ _ ⟨A5, c5, rfl, rfl⟩
  refine TL_y rfl rfl (Y_field_addr rfl) ?_
  refine TL_store rfl rfl rfl rfl rfl rfl ?_
  refine TL_nil ?_
  refine T_region ?_
  refine TL_y rfl rfl (Y_load_agg rfl rfl) ?_
  refine TL_store rfl rfl rfl rfl rfl rfl ?_
  refine TL_nil ?_
  refine T_ret ?_
  exact RetG_1 (.inl rfl) rfl (ResV.agg rfl rfl) GivesTo.g (⟨(A5, c5), rfl, rfl⟩)
/-! ### The events of which a function tells true -/
def whr {σ : Type} (want : σ → EventD → Bool) (stp : σ → EventD → σ) : σ → List EventD → List EventD × σ
  | s, [] => ([], s)
  | s, e :: r => let x := whr want stp (stp s e) r; (bif want s e then e :: x.1 else x.1, x.2)
theorem whr_snoc {σ : Type} {want : σ → EventD → Bool} {stp : σ → EventD → σ} : ∀ (l : List EventD) (s : σ) (e : EventD), whr want stp s (l ++ [e]) = ((whr want stp s l).1 ++ (bif want (whr want stp s l).2 e then [e] else []), stp (whr want stp s l).2 e)
  | [], s, e => by simp [whr]
  | x :: r, s, e => by
    simp only [List.cons_append, whr]
    rw [whr_snoc r]
    cases want s x <;> simp
theorem whr_at {σ : Type} {want : σ → EventD → Bool} {stp : σ → EventD → σ} {l : List EventD} {i : Nat} {e : EventD} (h : l[i]? = some e) (s : σ) : whr want stp s (l.take (i + 1)) = ((whr want stp s (l.take i)).1 ++ (bif want (whr want stp s (l.take i)).2 e then [e] else []), stp (whr want stp s (l.take i)).2 e) := by
  rw [takeAt h]; exact whr_snoc _ _ _
theorem whr_len {σ : Type} {want : σ → EventD → Bool} {stp : σ → EventD → σ} : ∀ (l : List EventD) (s : σ), (whr want stp s l).1.length ≤ l.length
  | [], s => by simp [whr]
  | x :: r, s => by
    have := whr_len (want := want) (stp := stp) r (stp s x)
    simp only [whr]
    cases want s x <;> simp <;> omega
theorem whr_filter (p : EventD → Bool) : ∀ l : List EventD, (whr (fun (_ : Unit) e => p e) (fun s _ => s) () l).1 = l.filter p
  | [] => rfl
  | x :: r => by
    simp only [whr, List.filter_cons]
    rw [whr_filter p r]
    cases p x <;> simp
theorem whr_once : ∀ (l : List EventD) (seen : List DotD), (whr (fun seen e => !decide (e.dot ∈ seen)) (fun seen e => e.dot :: seen) seen l).1 = onceS seen l
  | [], seen => rfl
  | x :: r, seen => by
    simp only [whr, onceS]
    by_cases h : x.dot ∈ seen
    · have key : ∀ (l : List EventD) (a b : List DotD), (∀ d, d ∈ a ↔ d ∈ b) → (whr (fun seen e => !decide (e.dot ∈ seen)) (fun seen e => e.dot :: seen) a l).1 = (whr (fun seen e => !decide (e.dot ∈ seen)) (fun seen e => e.dot :: seen) b l).1 := by
        intro l
        induction l with
        | nil => intro a b _; rfl
        | cons y t ih =>
          intro a b hab
          simp only [whr]
          rw [ih (y.dot :: a) (y.dot :: b) (fun d => by rw [List.mem_cons, List.mem_cons, hab])]
          simp only [hab]
      rw [if_pos h, ← whr_once r seen]
      simp only [h, decide_true, Bool.not_true, cond_false]
      exact key r (x.dot :: seen) seen fun d => ⟨fun hd => by rcases List.mem_cons.1 hd with rfl | hd; exact h; exact hd, List.mem_cons_of_mem _⟩
    · rw [if_neg h, whr_once r]
      simp [h]
structure WhSt (σ : Type) where
  i : Nat
  A : Option Addr
  c : Nat
theorem where_spec {σ : Type} {L : List HP} {A : Option Addr} {c : Nat} {l : List EventD} (W : σ → HP) (want : σ → EventD → Bool) (stp : σ → EventD → σ) (f : FuncId) [IsCall Try.prog f] (caps : List Value) (s0 : σ)
    (hspec : ∀ (s : σ) (e : EventD) (q : Option Addr × Nat) (L1 : List HP), e ∈ l → eventOk e → SlN L1 (intR .i64) q.1 q.2 e.deps → Fn Try.prog f ([] ++ [evV e q] ++ caps).toArray (W s :: L1) (fun v L' => v = .bool (want s e) ∧ L' = W (stp s e) :: L1))
    (hk : SlK L eventR A c l) (hl : l.length ≤ 1466015503701) :
    Fn Try.prog 41 #[.slice A l.length c, .func (.func f) #[] caps.toArray] (W s0 :: L) (fun v L' => ∃ A' c', v = .slice A' (whr want stp s0 l).1.length c' ∧ L' = osl eventR 29 A' c' (whr want stp s0 l).1 :: W (whr want stp s0 l).2 :: L) := by
  refine Fn_enter Try.func41 rfl rfl rfl rfl ?_
  refine T_gives (SlK.lay hk.tail) ?_
  refine T_region ?_
  refine TL_y rfl rfl (Y_assign rfl) ?_
  refine TL_nil ?_
  refine T_region ?_
  refine TL_y rfl rfl (Y_assign rfl) ?_
  refine TL_nil ?_
  refine T_seq ?_
  refine T_region ?_
  refine TL_y rfl rfl (Y_move rfl) ?_
  refine TL_y rfl rfl (Y_len rfl) ?_
  refine TL_y rfl rfl (Y_move rfl) ?_
  refine TL_nil ?_
  refine T_block ?_
  refine T_loopK (σ := WhSt σ) [1, 8, 9] (fun g => g.i ≤ l.length) (fun g kv => (10, .int .i64 (g.i : Int)) :: (5, .slice g.A (whr want stp s0 (l.take g.i)).1.length g.c) :: kv) (fun g => osl eventR 29 g.A g.c (whr want stp s0 (l.take g.i)).1 :: W (whr want stp s0 (l.take g.i)).2 :: sl eventR A c l :: L) (fun g => l.length - g.i) (⟨0, none, 0⟩) rfl (Nat.zero_le _) (Gives.trans (Gives.swap _ _ _) (osl_nil eventR 29 none _)) (sub_cons rfl (sub_cons rfl (sub_cons rfl (sub_cons rfl (sub_cons rfl (sub_nil)))))) ?_
  rintro ⟨i, X, cx⟩ hil
  dsimp only at hil ⊢
  refine T_region ?_
  refine TL_y rfl rfl (Y_lt rfl rfl) ?_
  refine TL_nil ?_
  refine T_seq ?_
  refine T_if rfl (fun h11 => ?_) (fun h11 => ?_)
  · refine T_skip ?_
    refine thenS_normal ?_
    refine T_seq ?_
    refine T_block ?_
    obtain ⟨e, he⟩ : ∃ e, l[i]? = some e := ⟨_, List.getElem?_eq_getElem (by omega)⟩
    have hem := List.mem_of_getElem? he
    have hsn := whr_at (want := want) (stp := stp) he s0
    have hwl := whr_len (want := want) (stp := stp) (l.take i) s0
    rw [List.length_take] at hwl
    generalize whr want stp s0 (l.take i) = x at hsn hwl ⊢
    obtain ⟨xs, s⟩ := x
    dsimp only at hsn hwl ⊢
    refine T_region ?_
    refine TL_index_n rfl rfl rfl (rfl) ((sln (A := A) (c := c))) (he) ?_
    intro bn12 on12 hA12 hk12
    have hu12 := he
    refine TL_load_nx rfl rfl hk12 hu12 (fun _ => rfl) ?_
    intro p13 ok13
    simp only [List.cons_append, List.nil_append]
    refine TL_alloc rfl rfl ?_
    intro b7
    refine TL_store rfl rfl rfl rfl rfl rfl ?_
    refine TL_nil ?_
    refine T_region ?_
    refine TL_y rfl rfl (Y_move rfl) ?_
    refine TL_y rfl rfl (Y_load_agg rfl rfl) ?_
    refine TL_gives (show Gives _ (W s :: cells b7 (eventC e p13) 29 :: sl (intR .i64) p13.1 p13.2 e.deps :: osl eventR 29 X cx xs :: sl eventR A c l :: L) from GivesTo.g) ?_
    refine TL_call_fn rfl rfl rfl (hspec s e p13 _ hem ok13 (SlK.n slk)) ?_
    rintro _ _ ⟨rfl, rfl⟩
    refine TL_nil ?_
    refine T_cond rfl (fun h16 => ?_) (fun h16 => ?_)
    · rw [h16] at hsn
      simp only [cond_true] at hsn
      refine T_region_last ?_
      refine TL_y rfl rfl (Y_move rfl) ?_
      refine TL_y rfl rfl (Y_load_agg rfl rfl) ?_
      refine TL_call rfl rfl (ctCopied_spec e p13 (SlK.n slk) ok13) ?_
      rintro _ _ ⟨q, rfl, rfl⟩
      refine TL_freeze_osl ?_
      refine TL_build_slice rfl rfl rfl rfl rfl rfl ?_
      intro b20
      refine TL_osl (k := 1) eventR [e] (cells_one' (ex_rep q (sep_sl slk) ok13)) rfl (by decide) ?_
      refine TL_freeze_osl ?_
      refine TL_name 20 (v' := .slice (some ⟨b20, 0, none⟩) [e].length 1) rfl rfl ?_
      refine TL_append rfl rfl rfl rfl rfl slk (by simp only [List.length_cons, List.length_nil]; omega) ?_
      intro A21 c21
      refine TL_y rfl rfl (Y_assign rfl) ?_
      refine TL_nil ?_
      refine inB_normal ?_
      refine thenS_normal ?_
      refine T_region_last ?_
      refine TL_y rfl rfl (Y_add rfl rfl (by omega)) ?_
      refine TL_name 22 (v' := .int .i64 ((i + 1 : Nat) : Int)) rfl (rfl) ?_
      refine TL_y rfl rfl (Y_move rfl) ?_
      refine TL_nil ?_
      refine thenS_normal ?_
      rw [show xs ++ [e] = (whr want stp s0 (l.take (i + 1))).1 by rw [hsn]]
      rw [show stp s e = (whr want stp s0 (l.take (i + 1))).2 by rw [hsn]]
      exact ⟨⟨i + 1, A21, c21⟩, (by simp only; omega), by simp only; omega, holds_to (sub_cons rfl (sub_cons rfl (sub_cons rfl (sub_cons rfl (sub_cons rfl (sub_nil)))))) GivesTo.g⟩
    · rw [h16] at hsn
      simp only [cond_false, List.append_nil] at hsn
      refine T_skip ?_
      refine inB_normal ?_
      refine thenS_normal ?_
      refine T_region_last ?_
      refine TL_y rfl rfl (Y_add rfl rfl (by omega)) ?_
      refine TL_name 22 (v' := .int .i64 ((i + 1 : Nat) : Int)) rfl (rfl) ?_
      refine TL_y rfl rfl (Y_move rfl) ?_
      refine TL_nil ?_
      refine thenS_normal ?_
      have e1 : xs = (whr want stp s0 (l.take (i + 1))).1 := (congrArg Prod.fst hsn).symm
      rw [show stp s e = (whr want stp s0 (l.take (i + 1))).2 by rw [hsn]]
      clear hsn
      subst e1
      exact ⟨⟨i + 1, X, cx⟩, (by simp only; omega), by simp only; omega, holds_to (sub_cons rfl (sub_cons rfl (sub_cons rfl (sub_cons rfl (sub_cons rfl (sub_nil)))))) GivesTo.g⟩
  · refine T_exit ?_
    refine thenS_exit ?_
    refine thenS_exit ?_
    refine inB_hit ?_
    refine thenS_normal ?_
    refine T_region ?_
    refine TL_y rfl rfl (Y_move rfl) ?_
    refine TL_y rfl rfl (Y_assign rfl) ?_
    refine TL_nil ?_
    refine T_ret ?_
    rw [List.take_of_length_le (show l.length ≤ i by omega)]
    exact RetG_1 (.inl rfl) rfl (ResV.tmp rfl) GivesTo.g (⟨X, cx, rfl, rfl⟩)
end Go.SL
set_option linter.unusedVariables false
set_option linter.unusedSimpArgs false
namespace Go.SL
open Go Go.Proofs
open Go.WideMaps (KeyLaw)
abbrev ArtD := ByteArray × ByteArray
def artK : KeyT ArtD := ⟨fun k => .agg #[.string k.1, .string k.2], fun k => k.1.size ≤ maxEl ∧ k.2.size ≤ maxEl, fun a b h => by
  have h1 := (Value.agg.injEq _ _).mp h
  simp at h1
  exact Prod.ext h1.1 h1.2⟩
theorem ct_laid : laidOutB Try.prog = true := by kernel_rfl
theorem ct_types : ∃ q, Try.prog.types.size = q + 1 := ⟨Try.prog.types.size - 1, by have : 0 < Try.prog.types.size := of_decide_eq_true (by kernel_rfl); omega⟩
theorem art_row : (94 : TypeId) < Try.prog.types.size := of_decide_eq_true (by kernel_rfl)
theorem art_wide : (match Try.prog.underlying 94 with | some (.array _ _) | some (.struct _) => true | _ => false) = true := by rw [Try.underlying94]
set_option maxRecDepth 100000 in
theorem art_law : KeyLaw Try.prog 94 := deep_law_laid ct_laid (m := 2) (by omega) art_row (by kernel_rfl) art_wide
theorem art_cells : Try.prog.cellsOf 94 = 2 := by kernel_rfl
theorem str_cells : Try.prog.cellsOf 9 = 1 := by kernel_rfl
theorem art_key : Try.prog.keyType 94 = true := by kernel_rfl
set_option maxRecDepth 100000 in
theorem art_of (k : ArtD) (h : artK.ok k) : ∃ l, keyOf Try.prog 94 (artK.enc k) = some l := by
  obtain ⟨q, hq⟩ := ct_types
  have h1 : k.1.size ≤ maxLen := by have := h.1; simp only [maxEl] at this; simp only [maxLen]; omega
  have h2 : k.2.size ≤ maxLen := by have := h.2; simp only [maxEl] at this; simp only [maxLen]; omega
  have hf : (artK.enc k).formed Try.prog 94 = true := by simp [artK, Value.formed, Try.underlying94, art_cells]
  refine ⟨.string (keyBytes [.string k.1.data.toList, .string k.2.data.toList]), ?_⟩
  unfold keyOf
  rw [Try.underlying94]
  simp only [art_key, hf, Bool.and_self, if_true]
  rw [hq]
  simp [artK, Program.keyLits, Try.underlying94, Try.underlying9, art_cells, str_cells, Value.cells, h1, h2]
instance : KeyOk Try.prog 94 artK := ⟨Maps.Keyed.of_law art_law, art_of⟩
/-! ### Slices of vectors -/
def vecR : Rep (List Int) := exR 1 (fun (xs : List Int) (p : Option Addr × Nat) => [.slice p.1 xs.length p.2]) (fun (xs : List Int) (p : Option Addr × Nat) => [sl (intR .i64) p.1 p.2 xs]) (fun _ => True) (fun _ _ => rfl) (fun _ _ => rfl)
abbrev SlV := Option Addr × Nat × Nat
def valR : Rep SlV := ⟨1, fun _ x cs => cs = [.slice x.1 x.2.1 x.2.2], fun _ h => h, fun h => by simp [h], fun h v hv => by rw [h] at hv; simp at hv; subst hv; rfl⟩
instance : RepV valR (fun x => .slice x.1 x.2.1 x.2.2) := ⟨fun M x cs h => by rw [h]; rfl⟩
abbrev GC := ArtD × (Option Addr × Nat) × List (List Int)
abbrev mG (G : List GC) : List (ArtD × SlV) := G.map fun g => (g.1, (g.2.1.1, g.2.2.length, g.2.1.2))
abbrev pG (G : List GC) : List (ArtD × List (List Int)) := G.map fun g => (g.1, g.2.2)
abbrev oG (g : GC) : HP := osl vecR 27 g.2.1.1 g.2.1.2 g.2.2
abbrev hoG (G : List GC) : List HP := G.map oG
def slG (G : List GC) : HP := pers (fun M => ∀ g ∈ G, sliceAt M vecR g.2.1.1 g.2.1.2 g.2.2) (fun hM h g hg => (h g hg).mono hM)
theorem slG_lay {L : List HP} {G : List GC} (h : Knows L (fun M => ∀ g ∈ G, sliceAt M vecR g.2.1.1 g.2.1.2 g.2.2)) : Gives L (slG G :: L) := Knows.lay (hm := fun hM h g hg => (h g hg).mono hM) h
def clrP (k : ArtD) (e : EventD) : Bool := e.clears && (decide (e.cart = k.1) && decide (e.sku = k.2))
def clrL (l : List EventD) (k : ArtD) : List (List Int) := (l.filter (clrP k)).map fun e => e.deps
def GIc (l : List EventD) (G : List GC) : Prop := ∀ k, (getM (pG G) k).getD [] = clrL l k
theorem clrL_snoc {l : List EventD} {i : Nat} {e : EventD} (h : l[i]? = some e) (k : ArtD) : clrL (l.take (i + 1)) k = clrL (l.take i) k ++ if clrP k e then [e.deps] else [] := by
  unfold clrL
  rw [takeAt h, List.filter_append, List.map_append]
  by_cases hc : clrP k e = true <;> simp [hc]
theorem clrL_len (l : List EventD) (k : ArtD) : (clrL l k).length ≤ l.length := by unfold clrL; rw [List.length_map]; exact List.length_filter_le _ _
theorem goes_clr {l : List EventD} {e : EventD} : goesC l e ↔ ∃ v ∈ clrL l (e.cart, e.sku), hasV v e.dot := by
  unfold goesC clrL clrP
  constructor
  · rintro ⟨x, hx, h1, h2, h3, h4⟩
    exact ⟨x.deps, List.mem_map.2 ⟨x, List.mem_filter.2 ⟨hx, by simp [h1, h2, h3]⟩, rfl⟩, h4⟩
  · rintro ⟨v, hv, h4⟩
    obtain ⟨x, hx, rfl⟩ := List.mem_map.1 hv
    obtain ⟨h1, h2⟩ := List.mem_filter.1 hx
    simp at h2
    exact ⟨x, h1, h2.1, h2.2.1, h2.2.2, h4⟩
theorem ndG {G : List GC} : ND (mG G) ↔ ND (pG G) := by
  unfold ND mG pG
  rw [List.pairwise_map, List.pairwise_map]
theorem getG {G : List GC} {k : ArtD} : getM (mG G) k = none ↔ getM (pG G) k = none := by
  rw [getM_none, getM_none]
  constructor
  · intro h p hp; obtain ⟨g, hg, rfl⟩ := List.mem_map.1 hp; exact h _ (List.mem_map.2 ⟨g, hg, rfl⟩)
  · intro h p hp; obtain ⟨g, hg, rfl⟩ := List.mem_map.1 hp; exact h _ (List.mem_map.2 ⟨g, hg, rfl⟩)
theorem GIc.skip {l : List EventD} {i : Nat} {e : EventD} {G : List GC} (h : GIc (l.take i) G) (he : l[i]? = some e) (hc : e.clears = false) : GIc (l.take (i + 1)) G := fun k => by
  rw [h k, clrL_snoc he]
  simp [clrP, hc]
theorem GIc.put {l : List EventD} {i : Nat} {e : EventD} {G G' : List GC} {ys : List (List Int)} (h : GIc (l.take i) G) (he : l[i]? = some e) (hc : e.clears = true) (hys : (getM (pG G) (e.cart, e.sku)).getD [] = ys) (hp : (((e.cart, e.sku), ys ++ [e.deps]) :: delM (pG G) (e.cart, e.sku)).Perm (pG G')) (hn : ND (pG G)) : GIc (l.take (i + 1)) G' := fun k => by
  have hn2 : ND (((e.cart, e.sku), ys ++ [e.deps]) :: delM (pG G) (e.cart, e.sku)) := nd_put hn _ _
  rw [← getM_perm hp hn2 k, getM_cons, getM_del, clrL_snoc he]
  by_cases hk : (e.cart, e.sku) = k
  · subst hk
    rw [if_pos rfl, ← h, hys]
    simp [clrP, hc]
  · rw [if_neg hk, if_neg (fun h => hk h.symm), h k]
    have : clrP k e = false := by
      unfold clrP
      rw [hc]
      by_cases h1 : e.cart = k.1 <;> by_cases h2 : e.sku = k.2 <;> simp [h1, h2]
      exact absurd (Prod.ext h1 h2) hk
    rw [this]; simp
theorem find_G {G : List GC} {k : ArtD} {u : SlV} (h : getM (mG G) k = some u) : ∃ (j : Nat) (g : GC), G[j]? = some g ∧ g.1 = k ∧ u = (g.2.1.1, g.2.2.length, g.2.1.2) := by
  obtain ⟨g, hg, e⟩ := List.mem_map.1 (getM_mem h)
  obtain ⟨j, hj⟩ := List.getElem?_of_mem hg
  have e1 := congrArg Prod.fst e
  have e2 := congrArg Prod.snd e
  exact ⟨j, g, hj, e1, e2.symm⟩
theorem get_G {G : List GC} (hn : ND (pG G)) {j : Nat} {g : GC} {k : ArtD} (hj : G[j]? = some g) (hk : g.1 = k) : getM (pG G) k = some g.2.2 := getM_of_mem hn (List.mem_map.2 ⟨g, List.mem_of_getElem? hj, by rw [hk]⟩)
theorem perm_G {G : List GC} (hn : ND (mG G)) {j : Nat} {g : GC} {k : ArtD} (hj : G[j]? = some g) (hk : g.1 = k) (x : (Option Addr × Nat) × List (List Int)) : ((k, (x.1.1, x.2.length, x.1.2)) :: delM (mG G) k).Perm (mG (G.set j (k, x))) := by
  have h1 : (mG G)[j]? = some (k, (g.2.1.1, g.2.2.length, g.2.1.2)) := by rw [List.getElem?_map, hj, ← hk]; rfl
  rw [delM_erase hn h1, show mG (G.set j (k, x)) = (mG G).set j (k, (x.1.1, x.2.length, x.1.2)) from List.map_set]
  exact (set_perm (by rw [List.length_map]; exact (List.getElem?_eq_some_iff.1 hj).1)).symm
theorem perm_P {G : List GC} (hn : ND (pG G)) {j : Nat} {g : GC} {k : ArtD} (hj : G[j]? = some g) (hk : g.1 = k) (x : (Option Addr × Nat) × List (List Int)) : ((k, x.2) :: delM (pG G) k).Perm (pG (G.set j (k, x))) := by
  have h1 : (pG G)[j]? = some (k, g.2.2) := by rw [List.getElem?_map, hj, ← hk]; rfl
  rw [delM_erase hn h1, show pG (G.set j (k, x)) = (pG G).set j (k, x.2) from List.map_set]
  exact (set_perm (by rw [List.length_map]; exact (List.getElem?_eq_some_iff.1 hj).1)).symm
section
variable {r : Option Nat} {n : Nat} {P : Program} {ops : Array Oper} {rest : List Oper} {K : St → Prop} {Q : Exit → St → Prop} {D : List Deferred} {E : Env} {L : List HP}
theorem TL_isv {α : Type} {R : Rep α} {f : α → Value} [hv : RepV R f] {u : α} {cs : List Value} (h : wrapV false cs = f u → TL r n P ops rest ⟨D, E, L⟩ K) : TL r n P ops rest ⟨D, E, is R u cs :: L⟩ K := fun W a w hh => by
  obtain ⟨M, k, _, _, _, h1, h2, _, _, _, hi, _⟩ := hh.2.ex
  exact h (hv.e _ _ _ hi) W a w ⟨hh.1, hh.2.gives (Gives.drop _ _)⟩
theorem sat_freezeG {W w : World} : ∀ (G : List GC) (L : List HP), Sat W w (allH (hoG G) :: L) → Sat W w (slG G :: L)
  | [], L, h => (h.gives (Gives.drop _ _)).gives (slG_lay (Knows.const fun M g hg => by cases hg))
  | g :: G, L, h => by
    have h1 : Sat W w (oG g :: allH (hoG G) :: L) := h.gives ((unS_open (L := hoG (g :: G))).trans (Gives.cons _ unS_close))
    have h2 := (freeze_osl h1).gives (Gives.swap _ _ _)
    have h3 := sat_freezeG G _ h2
    refine h3.gives (Gives.trans (slG_lay (G := g :: G) ?_) (Gives.cons _ ((Gives.drop _ _).trans (Gives.drop _ _))))
    intro M m hs x hx
    obtain ⟨_, _, _, _, _, ha, _, _, _, _, _, hb, _⟩ := hs
    rcases List.mem_cons.1 hx with rfl | hx
    · exact hb
    · exact ha x hx
theorem T_freezeG {c : Code} {G : List GC} (h : T r n P c ⟨D, E, slG G :: L⟩ Q) : T r n P c ⟨D, E, allH (hoG G) :: L⟩ Q := fun W a w hh => h W a w ⟨hh.1, sat_freezeG _ _ hh.2⟩
end
structure ClSt where
  i : Nat
  G : List GC
theorem clears_spec {L : List HP} {A : Option Addr} {c : Nat} {l : List EventD} (hk : SlK L eventR A c l) (hl : l.length ≤ 1466015503701) : Fn Try.prog 63 #[.slice A l.length c] L (fun v L' => ∃ bm G, v = .map (some bm) ∧ L' = omap artK valR false bm (mG G) :: slG G :: L ∧ GIc l G) := by
  refine Fn_enter Try.func63 rfl rfl rfl rfl ?_
  refine T_gives hk.lay ?_
  refine T_region ?_
  refine TL_y rfl rfl (Y_assign rfl) ?_
  refine TL_nil ?_
  refine T_region ?_
  refine TL_makeMap artK valR false rfl ?_
  intro bm
  refine TL_y rfl rfl (Y_assign rfl) ?_
  refine TL_nil ?_
  refine T_seq ?_
  refine T_gives (Gives.trans (unS_close (L := [])) (Gives.swap _ _ _)) ?_
  refine T_region ?_
  refine TL_y rfl rfl (Y_move rfl) ?_
  refine TL_y rfl rfl (Y_len rfl) ?_
  refine TL_y rfl rfl (Y_move rfl) ?_
  refine TL_nil ?_
  refine T_block ?_
  refine T_loopK (σ := ClSt) [3, 8, 9] (fun g => g.i ≤ l.length ∧ GIc (l.take g.i) g.G) (fun g kv => (10, .int .i64 (g.i : Int)) :: kv) (fun g => omap artK valR false bm (mG g.G) :: allH (hoG g.G) :: sl eventR A c l :: L) (fun g => l.length - g.i) (⟨0, []⟩) rfl (⟨Nat.zero_le _, fun k => rfl⟩) (Gives.refl _) (sub_cons rfl (sub_cons rfl (sub_cons rfl (sub_cons rfl (sub_nil))))) ?_
  rintro ⟨i, G⟩ ⟨hil, hG⟩
  dsimp only at hil hG ⊢
  refine T_region ?_
  refine TL_y rfl rfl (Y_lt rfl rfl) ?_
  refine TL_nil ?_
  refine T_seq ?_
  refine T_if rfl (fun h11 => ?_) (fun h11 => ?_)
  · refine T_skip ?_
    refine thenS_normal ?_
    refine T_seq ?_
    refine T_block ?_
    obtain ⟨e, he⟩ : ∃ e, l[i]? = some e := ⟨_, List.getElem?_eq_getElem (by omega)⟩
    refine T_nd (b := bm) fun hnd => ?_
    refine T_region ?_
    refine TL_index_n rfl rfl rfl (rfl) ((sln (A := A) (c := c))) (he) ?_
    intro bn12 on12 hA12 hk12
    have hu12 := he
    refine TL_load_nx rfl rfl hk12 hu12 (fun _ => rfl) ?_
    intro p13 ok13
    simp only [List.cons_append, List.nil_append]
    refine TL_alloc rfl rfl ?_
    intro b5
    refine TL_store rfl rfl rfl rfl rfl rfl ?_
    refine TL_nil ?_
    refine T_region ?_
    refine TL_y rfl rfl (Y_field_addr rfl) ?_
    refine TL_y rfl rfl (Y_load rfl rfl) ?_
    refine TL_nil ?_
    refine T_cond rfl (fun hcl => ?_) (fun hcl => ?_)
    · refine T_region ?_
      refine TL_y rfl rfl (Y_field_addr rfl) ?_
      refine TL_y rfl rfl (Y_load rfl rfl) ?_
      refine TL_y rfl rfl (Y_field_addr rfl) ?_
      refine TL_y rfl rfl (Y_load rfl rfl) ?_
      refine TL_y rfl rfl (Y_build rfl rfl) ?_
      refine TL_alloc rfl rfl ?_
      intro b6
      refine TL_store rfl rfl rfl rfl rfl rfl ?_
      refine TL_nil ?_
      refine T_region_last ?_
      refine TL_y rfl rfl (Y_move rfl) ?_
      refine TL_y rfl rfl (Y_load_agg rfl rfl) ?_
      refine TL_y rfl rfl (Y_field_addr rfl) ?_
      refine TL_y rfl rfl (Y_load rfl rfl) ?_
      refine TL_build_slice rfl rfl rfl rfl rfl rfl ?_
      intro b26
      refine TL_osl (k := 1) vecR [e.deps] (cells_one' (ex_rep p13 (sep_sl slk) trivial)) rfl (by decide) ?_
      refine TL_freeze_osl ?_
      refine TL_name 26 (v' := .slice (some ⟨b26, 0, none⟩) [e.deps].length 1) rfl rfl ?_
      refine TL_mapEntry (K := artK) (R := valR) (k := (e.cart, e.sku)) rfl rfl rfl ⟨ok13.2.2.2.1, ok13.2.2.2.2.2.1⟩ (fun born hg0 => ?_) (fun u cs born hg1 => ?_)
      · refine TL_y rfl rfl (Y_extract rfl rfl) ?_
        refine TL_onil (A := none) vecR 27 ?_
        refine TL_append (R := vecR) (xs := []) rfl rfl rfl rfl rfl slk (by simp only [List.length_cons, List.length_nil]; omega) ?_
        intro A28 c28
        refine TL_y rfl rfl (Y_extract rfl rfl) ?_
        refine TL_entryStore (u := (A28, ([] ++ [e.deps] : List (List Int)).length, c28)) (cs := [.slice A28 ([] ++ [e.deps] : List (List Int)).length c28]) (mG (G ++ [((e.cart, e.sku), (A28, c28), [] ++ [e.deps])])) rfl rfl rfl (Knows.const fun M => rfl) (by rw [del_none hg0]; simp only [mG, List.map_append, List.map_cons, List.map_nil]; exact (List.perm_append_singleton _ _).symm) ?_
        refine TL_nil ?_
        refine inB_normal ?_
        refine thenS_normal ?_
        refine T_gives (show Gives _ (oG ((e.cart, e.sku), (A28, c28), [] ++ [e.deps]) :: allH (hoG G) :: _) from (FindHP.g (p := osl vecR 27 A28 c28 ([] ++ [e.deps]))).trans (Gives.cons _ (FindHP.g (p := allH (hoG G))))) ?_
        refine T_gives (show Gives _ (allH (hoG (G ++ [((e.cart, e.sku), (A28, c28), [] ++ [e.deps])])) :: _) from unS_snoc (f := oG) (bs := G) (b := ((e.cart, e.sku), (A28, c28), [] ++ [e.deps]))) ?_
        refine T_region_last ?_
        refine TL_y rfl rfl (Y_add rfl rfl (by omega)) ?_
        refine TL_name 30 (v' := .int .i64 ((i + 1 : Nat) : Int)) rfl (rfl) ?_
        refine TL_y rfl rfl (Y_move rfl) ?_
        refine TL_nil ?_
        refine thenS_normal ?_
        exact ⟨⟨i + 1, G ++ [((e.cart, e.sku), (A28, c28), [] ++ [e.deps])]⟩, ⟨by simp only; omega, hG.put he hcl (ys := []) (by rw [getG.1 hg0]; rfl) (by rw [del_none (getG.1 hg0)]; simp only [pG, List.map_append, List.map_cons, List.map_nil]; exact (List.perm_append_singleton _ _).symm) (ndG.1 hnd)⟩, by simp only; omega, holds_to (sub_cons rfl (sub_cons rfl (sub_cons rfl (sub_cons rfl (sub_nil))))) GivesTo.g⟩
      · refine TL_isv fun hcs => ?_
        rw [hcs]
        obtain ⟨j, g, hgj, hgk, hgu⟩ := find_G hg1
        subst hgu
        have hys : (getM (pG G) (e.cart, e.sku)).getD [] = g.2.2 := (by rw [get_G (ndG.1 hnd) hgj hgk]; rfl)
        have hyl : g.2.2.length ≤ l.length := (by rw [← hys, hG]; exact Nat.le_trans (clrL_len _ _) (by rw [List.length_take]; omega))
        refine TL_y rfl rfl (Y_extract rfl rfl) ?_
        refine TL_gives (show Gives _ (allH (hoG G) :: _) from FindHP.g) ?_
        refine TL_gives (allH_take (show (hoG G)[j]? = some (oG g) by rw [List.getElem?_map, hgj]; rfl)) ?_
        refine TL_append rfl rfl rfl rfl rfl slk (by simp only [List.length_cons, List.length_nil]; omega) ?_
        intro A28 c28
        refine TL_y rfl rfl (Y_extract rfl rfl) ?_
        refine TL_entryStore (u := (A28, (g.2.2 ++ [e.deps]).length, c28)) (cs := [.slice A28 (g.2.2 ++ [e.deps]).length c28]) (mG (G.set j ((e.cart, e.sku), (A28, c28), g.2.2 ++ [e.deps]))) rfl rfl rfl (Knows.const fun M => rfl) (perm_G hnd hgj hgk ((A28, c28), g.2.2 ++ [e.deps])) ?_
        refine TL_nil ?_
        refine inB_normal ?_
        refine thenS_normal ?_
        refine T_gives (show Gives _ (oG ((e.cart, e.sku), (A28, c28), g.2.2 ++ [e.deps]) :: allH ((hoG G).set j hole) :: _) from (FindHP.g (p := osl vecR 27 A28 c28 (g.2.2 ++ [e.deps]))).trans (Gives.cons _ FindHP.g)) ?_
        refine T_gives (allH_put (by rw [List.length_map]; exact (List.getElem?_eq_some_iff.1 hgj).1)) ?_
        rw [show (hoG G).set j (oG ((e.cart, e.sku), (A28, c28), g.2.2 ++ [e.deps])) = hoG (G.set j ((e.cart, e.sku), (A28, c28), g.2.2 ++ [e.deps])) from List.map_set.symm]
        refine T_region_last ?_
        refine TL_y rfl rfl (Y_add rfl rfl (by omega)) ?_
        refine TL_name 30 (v' := .int .i64 ((i + 1 : Nat) : Int)) rfl (rfl) ?_
        refine TL_y rfl rfl (Y_move rfl) ?_
        refine TL_nil ?_
        refine thenS_normal ?_
        exact ⟨⟨i + 1, G.set j ((e.cart, e.sku), (A28, c28), g.2.2 ++ [e.deps])⟩, ⟨by simp only; omega, hG.put he hcl hys (perm_P (ndG.1 hnd) hgj hgk ((A28, c28), g.2.2 ++ [e.deps])) (ndG.1 hnd)⟩, by simp only; omega, holds_to (sub_cons rfl (sub_cons rfl (sub_cons rfl (sub_cons rfl (sub_nil))))) GivesTo.g⟩
    · refine T_skip ?_
      refine inB_normal ?_
      refine thenS_normal ?_
      refine T_region_last ?_
      refine TL_y rfl rfl (Y_add rfl rfl (by omega)) ?_
      refine TL_name 30 (v' := .int .i64 ((i + 1 : Nat) : Int)) rfl (rfl) ?_
      refine TL_y rfl rfl (Y_move rfl) ?_
      refine TL_nil ?_
      refine thenS_normal ?_
      exact ⟨⟨i + 1, G⟩, ⟨by simp only; omega, hG.skip he hcl⟩, by simp only; omega, holds_to (sub_cons rfl (sub_cons rfl (sub_cons rfl (sub_cons rfl (sub_nil))))) GivesTo.g⟩
  · refine T_exit ?_
    refine thenS_exit ?_
    refine thenS_exit ?_
    refine inB_hit ?_
    refine thenS_normal ?_
    rw [List.take_of_length_le (show l.length ≤ i by omega)] at hG
    refine T_pull 1 rfl ?_
    refine T_freezeG ?_
    refine T_region ?_
    refine TL_y rfl rfl (Y_move rfl) ?_
    refine TL_y rfl rfl (Y_assign rfl) ?_
    refine TL_nil ?_
    refine T_ret ?_
    refine RetQ.gives (show Gives _ (omap artK valR false bm (mG G) :: slG G :: L) from GivesTo.g) ?_
    exact RetG_1 (.inl rfl) rfl (ResV.tmp rfl) GivesTo.g (⟨bm, G, rfl, rfl, hG⟩)
end Go.SL
set_option linter.unusedVariables false
set_option linter.unusedSimpArgs false
namespace Go.SL
open Go Go.Proofs
theorem standV_spec {L : List HP} {b2 : Nat} {e : EventD} {q p : Option Addr × Nat} (xs : List Int) (hk : SlN L (intR .i64) p.1 p.2 xs) : Fn Try.prog 66 #[.slice p.1 xs.length p.2, .pointer (some ⟨b2, 0, none⟩)] (cells b2 (eventC e q) 29 :: L) (fun v L' => v = .bool (decide (hasV xs e.dot)) ∧ L' = cells b2 (eventC e q) 29 :: L) := by
  refine Fn_enter Try.func66 rfl rfl rfl rfl ?_
  refine T_region ?_
  refine TL_y rfl rfl (Y_assign rfl) ?_
  refine TL_nil ?_
  refine T_region ?_
  refine TL_y rfl rfl (Y_move rfl) ?_
  refine TL_y rfl rfl (Y_field_addr rfl) ?_
  refine TL_y rfl rfl (Y_load_agg rfl rfl) ?_
  refine TL_call rfl rfl (vvHas_spec hk.tail e.dot) ?_
  rintro _ _ ⟨rfl, rfl⟩
  refine TL_y rfl rfl (Y_assign rfl) ?_
  refine TL_nil ?_
  refine T_ret ?_
  exact RetG_1 (.inl rfl) rfl (ResV.tmp rfl) GivesTo.g (⟨rfl, rfl⟩)
theorem indexV_spec {L : List HP} {A : Option Addr} {c b2 : Nat} {e : EventD} {q : Option Addr × Nat} {ys : List (List Int)} (hk : SlK L vecR A c ys) : Fn Try.prog 82 #[.slice A ys.length c, .func (.func 66) #[] #[.pointer (some ⟨b2, 0, none⟩)]] (cells b2 (eventC e q) 29 :: L) (fun v L' => ∃ r : Int, v = .int .i64 r ∧ L' = cells b2 (eventC e q) 29 :: L ∧ (0 ≤ r ↔ ∃ x ∈ ys, hasV x e.dot)) := by
  refine Fn_enter Try.func82 rfl rfl rfl rfl ?_
  refine T_gives (SlK.lay hk.tail) ?_
  refine SlN.lens (sln (A := A) (c := c)) fun hl => ?_
  simp only [maxEl] at hl
  refine T_region ?_
  refine TL_y rfl rfl (Y_assign rfl) ?_
  refine TL_nil ?_
  refine T_seq ?_
  refine T_region ?_
  refine TL_y rfl rfl (Y_move rfl) ?_
  refine TL_y rfl rfl (Y_len rfl) ?_
  refine TL_y rfl rfl (Y_move rfl) ?_
  refine TL_nil ?_
  refine T_block ?_
  refine T_loopK (σ := Nat) [0, 1, 7] (fun i => i ≤ ys.length ∧ ∀ x ∈ ys.take i, ¬ hasV x e.dot) (fun i kv => (8, .int .i64 (i : Int)) :: kv) (fun i => cells b2 (eventC e q) 29 :: sl vecR A c ys :: L) (fun i => ys.length - i) (0) rfl (⟨Nat.zero_le _, by simp⟩) (GivesTo.g) (sub_cons rfl (sub_cons rfl (sub_cons rfl (sub_cons rfl (sub_nil))))) ?_
  intro i hi
  refine T_region ?_
  refine TL_y rfl rfl (Y_lt rfl rfl) ?_
  refine TL_nil ?_
  refine T_seq ?_
  refine T_if rfl (fun h9 => ?_) (fun h9 => ?_)
  · refine T_skip ?_
    refine thenS_normal ?_
    refine T_seq ?_
    refine T_block ?_
    obtain ⟨x, hx⟩ : ∃ x, ys[i]? = some x := ⟨_, List.getElem?_eq_getElem (by omega)⟩
    refine T_region ?_
    refine TL_y rfl rfl (Y_move rfl) ?_
    refine TL_y rfl rfl (Y_assign rfl) ?_
    refine TL_nil ?_
    refine T_region ?_
    refine TL_y rfl rfl (Y_move rfl) ?_
    refine TL_y rfl rfl (Y_move rfl) ?_
    refine TL_y rfl rfl (Y_move rfl) ?_
    refine TL_index_n rfl rfl rfl (rfl) ((sln (A := A) (c := c))) (hx) ?_
    intro bn14 on14 hA14 hk14
    have hu14 := hx
    refine TL_load_nx1 rfl rfl hk14 hu14 (fun _ => rfl) ?_
    intro p15 ok15
    simp only [List.cons_append, List.nil_append]
    refine TL_pullc b2 ?_
    refine TL_call_fn rfl rfl rfl (standV_spec x (SlK.n slk)) ?_
    rintro _ _ ⟨rfl, rfl⟩
    refine TL_nil ?_
    refine T_if rfl (fun h16 => ?_) (fun h16 => ?_)
    · refine T_region ?_
      refine TL_y rfl rfl (Y_move rfl) ?_
      refine TL_y rfl rfl (Y_assign rfl) ?_
      refine TL_nil ?_
      refine T_ret ?_
      refine inB_ret ?_
      refine thenS_ret ?_
      refine thenS_ret ?_
      refine inB_ret ?_
      refine thenS_ret ?_
      exact RetG_1 (.inl rfl) rfl (ResV.tmp rfl) GivesTo.g (⟨_, rfl, rfl, ⟨fun _ => ⟨x, List.mem_of_getElem? hx, h16⟩, fun _ => by omega⟩⟩)
    · refine T_skip ?_
      refine inB_normal ?_
      refine thenS_normal ?_
      refine T_region_last ?_
      refine TL_y rfl rfl (Y_add rfl rfl (by omega)) ?_
      refine TL_name 18 (v' := .int .i64 ((i + 1 : Nat) : Int)) rfl (rfl) ?_
      refine TL_y rfl rfl (Y_move rfl) ?_
      refine TL_nil ?_
      refine thenS_normal ?_
      exact ⟨i + 1, ⟨by omega, by rw [takeAt hx]; intro y hy; rcases List.mem_append.1 hy with h | h; exact hi.2 y h; (simp at h; subst h; exact h16)⟩, by omega, holds_to (sub_cons rfl (sub_cons rfl (sub_cons rfl (sub_cons rfl (sub_nil))))) GivesTo.g⟩
  · refine T_exit ?_
    refine thenS_exit ?_
    refine thenS_exit ?_
    refine inB_hit ?_
    refine thenS_normal ?_
    refine T_region ?_
    refine TL_y rfl rfl (Y_assign rfl) ?_
    refine TL_nil ?_
    refine T_ret ?_
    have hno := hi.2
    rw [List.take_of_length_le (show ys.length ≤ i by omega)] at hno
    exact RetG_1 (.inl rfl) rfl (ResV.tmp rfl) GivesTo.g (⟨_, rfl, rfl, ⟨fun h => absurd h (by omega), fun ⟨x, h1, h2⟩ => absurd h2 (hno x h1)⟩⟩)
theorem containsV_spec {L : List HP} {A : Option Addr} {c b2 : Nat} {e : EventD} {q : Option Addr × Nat} {ys : List (List Int)} (hk : SlK L vecR A c ys) : Fn Try.prog 65 #[.slice A ys.length c, .func (.func 66) #[] #[.pointer (some ⟨b2, 0, none⟩)]] (cells b2 (eventC e q) 29 :: L) (fun v L' => v = .bool (decide (∃ x ∈ ys, hasV x e.dot)) ∧ L' = cells b2 (eventC e q) 29 :: L) := by
  refine Fn_enter Try.func65 rfl rfl rfl rfl ?_
  refine T_region ?_
  refine TL_y rfl rfl (Y_assign rfl) ?_
  refine TL_nil ?_
  refine T_region ?_
  refine TL_y rfl rfl (Y_move rfl) ?_
  refine TL_y rfl rfl (Y_move rfl) ?_
  refine TL_call rfl rfl (indexV_spec hk) ?_
  rintro _ _ ⟨r, rfl, rfl, hr⟩
  refine TL_y rfl rfl (Y_ge rfl rfl) ?_
  refine TL_y rfl rfl (Y_assign rfl) ?_
  refine TL_nil ?_
  refine T_ret ?_
  exact RetG_1 (.inl rfl) rfl (ResV.tmp rfl) GivesTo.g (⟨congrArg Value.bool (decide_eq_decide.2 hr), rfl⟩)
theorem slG_at {L L0 : List HP} {G : List GC} {g : GC} [h : FindHP L (slG G) L0] (hg : g ∈ G) : Gives L (sl vecR g.2.1.1 g.2.1.2 g.2.2 :: L) := SlK.lay fun M m hs => by
  obtain ⟨_, _, _, _, _, h1, _⟩ := h.g M m hs
  exact h1 g hg
def wStand (bb bm : Nat) (G : List GC) : HP := unS [cells bb [.map (some bm)] 89, omap artK valR false bm (mG G), slG G]
theorem stand1_spec {L : List HP} {bb bm : Nat} {G : List GC} {l : List EventD} (hG : GIc l G) (e : EventD) (q : Option Addr × Nat) (ho : eventOk e) : Fn Try.prog 64 #[evV e q, .pointer (some ⟨bb, 0, none⟩)] (wStand bb bm G :: L) (fun v L' => v = .bool (!decide (goesC l e)) ∧ L' = wStand bb bm G :: L) := by
  refine Fn_enter Try.func64 rfl rfl rfl rfl ?_
  refine T_gives (show Gives _ (cells bb [.map (some bm)] 89 :: omap artK valR false bm (mG G) :: slG G :: L) from unS_open) ?_
  refine T_nd (b := bm) fun hnd => ?_
  refine T_region ?_
  refine TL_box rfl rfl rfl ?_
  intro b2
  refine TL_y rfl rfl (Y_assign rfl) ?_
  refine TL_nil ?_
  refine T_region ?_
  refine TL_y rfl rfl (Y_load rfl rfl) ?_
  refine TL_y rfl rfl (Y_field_addr rfl) ?_
  refine TL_y rfl rfl (Y_load rfl rfl) ?_
  refine TL_y rfl rfl (Y_field_addr rfl) ?_
  refine TL_y rfl rfl (Y_load rfl rfl) ?_
  refine TL_y rfl rfl (Y_build rfl rfl) ?_
  refine TL_lookup (K := artK) (R := valR) (k := (e.cart, e.sku)) rfl rfl rfl ⟨ho.2.2.2.1, ho.2.2.2.2.2.1⟩ (fun hg0 => ?_) (fun u cs hg1 => ?_)
  · refine TL_y rfl rfl (Y_make_func rfl rfl) ?_
    refine TL_pullc b2 ?_
    refine TL_call rfl rfl (containsV_spec (A := none) (c := 0) (ys := []) slnil) ?_
    rintro _ _ ⟨rfl, rfl⟩
    refine TL_y rfl rfl (Y_not rfl) ?_
    refine TL_y rfl rfl (Y_assign rfl) ?_
    refine TL_nil ?_
    refine T_ret ?_
    have hgo : goesC l e ↔ ∃ x ∈ ([] : List (List Int)), hasV x e.dot := (by rw [goes_clr, ← hG, getG.1 hg0]; rfl)
    refine RetQ.gives (show Gives _ (cells bb [.map (some bm)] 89 :: omap artK valR false bm (mG G) :: slG G :: L) from GivesTo.g) ?_
    refine RetQ.gives (show Gives _ (wStand bb bm G :: L) from unS_close (L := [cells bb [.map (some bm)] 89, omap artK valR false bm (mG G), slG G])) ?_
    exact RetG_1 (.inl rfl) rfl (ResV.tmp rfl) GivesTo.g (⟨congrArg Value.bool (by simp only [hgo]), rfl⟩)
  · refine TL_isv fun hcs => ?_
    rw [hcs]
    obtain ⟨j, g, hgj, hgk, hgu⟩ := find_G hg1
    subst hgu
    have hys : (getM (pG G) (e.cart, e.sku)).getD [] = g.2.2 := (by rw [get_G (ndG.1 hnd) hgj hgk]; rfl)
    refine TL_gives (slG_at (G := G) (List.mem_of_getElem? hgj)) ?_
    refine TL_y rfl rfl (Y_make_func rfl rfl) ?_
    refine TL_pullc b2 ?_
    refine TL_call rfl rfl (containsV_spec (ys := g.2.2) slk) ?_
    rintro _ _ ⟨rfl, rfl⟩
    refine TL_y rfl rfl (Y_not rfl) ?_
    refine TL_y rfl rfl (Y_assign rfl) ?_
    refine TL_nil ?_
    refine T_ret ?_
    have hgo : goesC l e ↔ ∃ x ∈ g.2.2, hasV x e.dot := (by rw [goes_clr, ← hG, hys])
    refine RetQ.gives (show Gives _ (cells bb [.map (some bm)] 89 :: omap artK valR false bm (mG G) :: slG G :: L) from GivesTo.g) ?_
    refine RetQ.gives (show Gives _ (wStand bb bm G :: L) from unS_close (L := [cells bb [.map (some bm)] 89, omap artK valR false bm (mG G), slG G])) ?_
    exact RetG_1 (.inl rfl) rfl (ResV.tmp rfl) GivesTo.g (⟨congrArg Value.bool (by simp only [hgo]), rfl⟩)
theorem stand_spec {L : List HP} {A : Option Addr} {c : Nat} {l : List EventD} (hk : SlK L eventR A c l) (hl : l.length ≤ 1466015503701) : Fn Try.prog 36 #[.slice A l.length c] L (fun v L' => ∃ A' c', v = .slice A' (standC l).length c' ∧ L' = osl eventR 29 A' c' (standC l) :: L) := by
  refine Fn_enter Try.func36 rfl rfl rfl rfl ?_
  refine T_gives hk.lay ?_
  refine T_region ?_
  refine TL_y rfl rfl (Y_assign rfl) ?_
  refine TL_nil ?_
  refine T_region ?_
  refine TL_y rfl rfl (Y_move rfl) ?_
  refine TL_call rfl rfl (clears_spec slk hl) ?_
  rintro _ _ ⟨bm, G, rfl, rfl, hG⟩
  refine TL_alloc rfl rfl ?_
  intro b3
  refine TL_store rfl rfl rfl rfl rfl rfl ?_
  refine TL_nil ?_
  refine T_region ?_
  refine TL_y rfl rfl (Y_move rfl) ?_
  refine TL_y rfl rfl (Y_make_func rfl rfl) ?_
  refine TL_gives (show Gives _ (cells b3 [.map (some bm)] 89 :: omap artK valR false bm (mG G) :: slG G :: sl eventR A c l :: L) from GivesTo.g) ?_
  refine TL_gives (show Gives _ (wStand b3 bm G :: sl eventR A c l :: L) from unS_close (L := [cells b3 [.map (some bm)] 89, omap artK valR false bm (mG G), slG G])) ?_
  refine TL_call rfl rfl (where_spec (σ := Unit) (fun _ ↦ wStand b3 bm G) (fun _ e ↦ !decide (goesC l e)) (fun s _ ↦ s) 64 [.pointer (some ⟨b3, 0, none⟩)] () (fun s e q L1 _ ho hk1 ↦ stand1_spec hG e q ho) slk hl) ?_
  rintro _ _ ⟨A8, c8, rfl, rfl⟩
  rw [show (whr (fun (_ : Unit) e => !decide (goesC l e)) (fun s _ => s) () l).1 = standC l from whr_filter _ l]
  refine TL_y rfl rfl (Y_assign rfl) ?_
  refine TL_nil ?_
  refine T_ret ?_
  exact RetG_1 (.inl rfl) rfl (ResV.tmp rfl) GivesTo.g (⟨A8, c8, rfl, rfl⟩)
end Go.SL
set_option linter.unusedVariables false
set_option linter.unusedSimpArgs false
namespace Go.SL
open Go Go.Proofs
theorem endr {κ α : Type} [DecidableEq κ] {K : KeyT κ} {R : Rep α} {ag : Bool} {b : Nat} {m done : List (κ × α)} {L L0 : List HP} (it : Nat) [hf : FindG L it b κ α K R ag m done L0] : Gives L (omap K R ag b m :: L0) := hf.g.trans mrange_end
structure GaSt where
  xs : List Int
  A : Option Addr
  c : Nat
def gaStep : LS GaSt → Int → LS GaSt → Prop := fun s x s' => s'.2 = none ∧ s'.1.xs = s.1.xs ++ [x]
/-! ### A map's keys -/
end Go.SL
set_option linter.unusedVariables false
set_option linter.unusedSimpArgs false
namespace Go.Proofs
open Go.Shelf
end Go.Proofs
namespace Go.SL
open Go Go.Proofs
def srt (xs : List Int) : List Int := xs.mergeSort fun x y => decide (x ≤ y)
theorem Sat.ahead {o w : World} {L : List HP} (h : Sat o w L) (n : Nat) : Sat o (Go.Sort.ahead w n) L := ⟨h.ex, h.os, h.tape, h.output, h.size⟩
theorem Sat.grow {o w : World} {L : List HP} (h : Sat o w L) (xs : Array Obj) : Sat o (Go.Sort.grow w xs) L := by
  obtain ⟨M, k, hd, hM, hk, hs⟩ := h.ex
  have hle : (heapOf w).le (heapOf (Go.Sort.grow w xs)) := fun b x hb => by
    have hlt := (Array.getElem?_eq_some_iff.1 (show w.heap[b]? = some x from hb)).1
    show (Go.Sort.grow w xs).heap[b]? = some x
    rw [Go.Sort.heap_grow_old w xs hlt]; exact hb
  exact ⟨⟨M, k, hd, Mem.le_trans hM hle, Mem.le_trans hk hle, hs⟩, h.os, h.tape, h.output, Nat.le_trans h.size (by simp [Go.Sort.grow])⟩
end Go.SL
set_option linter.unusedVariables false
set_option linter.unusedSimpArgs false
namespace Go.SL
open Go Go.Proofs
end Go.SL
set_option linter.unusedVariables false
set_option linter.unusedSimpArgs false
namespace Go.Proofs
open Go.Shelf
shelf_lay Lays.n190 Nm 190 at Try as Try.lays190
end Go.Proofs
namespace Go.SL
open Go Go.Proofs
def dataL (s : ByteArray) : List UInt8 := s.data.toList
def undata (l : List UInt8) : ByteArray := ⟨l.toArray⟩
theorem undata_data (s : ByteArray) : undata (dataL s) = s := by cases s; simp [undata, dataL]
def srtL (ss : List (List UInt8)) : List (List UInt8) := ss.mergeSort fun x y => decide (x ≤ y)
def srtS (xs : List ByteArray) : List ByteArray := (srtL (xs.map dataL)).map undata
theorem srtS_perm (xs : List ByteArray) : (srtS xs).Perm xs := by
  have := (List.mergeSort_perm (xs.map dataL) fun x y => decide (x ≤ y)).map undata
  rw [List.map_map, show undata ∘ dataL = id from funext undata_data, List.map_id] at this
  exact this
theorem srtS_length (xs : List ByteArray) : (srtS xs).length = xs.length := (srtS_perm xs).length_eq
theorem sortS_spec {L : List HP} {A : Option Addr} {c : Nat} {xs : List ByteArray} (hb : xs.length < 4611686018427387904) : Fn Try.prog 70 #[.slice A xs.length c] (osl strR 9 A c xs :: L) (fun v L' => v = .tuple #[] ∧ L' = osl strR 9 A c (srtS xs) :: L) := fun o w hs => by
  obtain ⟨M, k, hd, hM, hk, h1, h2, hd', l1, l2, hp, hsep⟩ := hs.ex
  rcases hp.2 with ⟨rfl, rfl⟩ | ⟨g, cur, rfl, hg, hsz, hl, hc, hx⟩
  · refine (Any.slices_Sort_string_none Try.lays190 A 0 w).mono ?_
    rintro e w' ⟨rfl, rfl⟩
    exact ⟨_, _, rfl, ⟨rfl, rfl⟩, by rw [show srtS [] = [] by simp [srtS, srtL]]; exact hs⟩
  · have hbw : w.heap[g]? = some (.cells cur 9 (0, 0)) := hk _ _ (l1 _ _ hg)
    have hlt : g < w.heap.size := (Array.getElem?_eq_some_iff.1 hbw).1
    have hcur : ∀ i x, xs[i]? = some x → cur[i]? = some (Value.string x) ∧ x.size ≤ maxEl := fun i x hi => by
      obtain ⟨l, ⟨rfl, hk2⟩, h⟩ := hx i x hi
      have := h 0 _ rfl
      exact ⟨by simpa [strR] using this, hk2⟩
    have hin : ∀ x ∈ xs, x.size ≤ maxEl := fun x hx => by
      obtain ⟨i, hi⟩ := List.getElem?_of_mem hx
      exact (hcur i x hi).2
    have henc : ∀ x : ByteArray, Go.Proofs.encStr (dataL x) = Value.string x := fun x => by cases x; simp [Go.Proofs.encStr, dataL]
    have hH : Go.Sort.Holds Go.Proofs.encStr w g 0 (xs.map dataL).toArray := fun j hj => by
      have hj' : j < xs.length := by simpa using hj
      refine ⟨?_, by simp [World.frozen?, hbw]⟩
      rw [Nat.zero_add, cell_of hbw, (hcur j _ (List.getElem?_eq_getElem hj')).1]
      simp [hj', henc]
    have hone : Sat o w (own g (.cells cur 9 (0, 0)) :: L) := ⟨⟨M, k, hd, hM, hk, h1, h2, hd', l1, l2, hg, hsep⟩, hs.os, hs.tape, hs.output, hs.size⟩
    have hkit := Any.slices_Sort_string Try.lays190 g 0 c (xs.map dataL) w hH hlt (by simpa using hb)
    rw [List.length_map] at hkit
    refine hkit.mono ?_
    rintro e w' ⟨rfl, n, os, rfl⟩
    have hput : Sat o (Go.Sort.putRow Go.Proofs.encStr (Go.Sort.ahead w n) g 0 (srtL (xs.map dataL)).toArray) (own g (.cells (Go.Sort.putCells Go.Proofs.encStr 0 (srtL (xs.map dataL)).toArray cur) 9 (0, 0)) :: L) := by
      refine (hone.ahead n).set ?_ ?_ rfl rfl rfl ?_
      · show ((Go.Sort.ahead w n).heap.modify g (Go.Sort.onCells _))[g]? = _
        rw [Array.getElem?_modify, if_pos rfl, show (Go.Sort.ahead w n).heap[g]? = w.heap[g]? from rfl, hbw]; rfl
      · intro i hi
        show ((Go.Sort.ahead w n).heap.modify g (Go.Sort.onCells _))[i]? = _
        rw [Array.getElem?_modify, if_neg (Ne.symm hi)]
      · show _ ≤ ((Go.Sort.ahead w n).heap.modify g (Go.Sort.onCells _)).size
        simp
    refine ⟨_, _, rfl, ⟨rfl, rfl⟩, (hput.grow os).gives fun N m ⟨a1, a2, ad, m1, m2, ha, hs'⟩ => ⟨a1, a2, ad, m1, m2, ⟨by rw [srtS_length]; exact hp.1, .inr ⟨g, _, rfl, ha, ?_, by rw [srtS_length]; exact hl, hc, fun i x hi => ?_⟩⟩, hs'⟩⟩
    · simp [Go.Sort.putCells, hsz]
    · have hm := List.mem_of_getElem? hi
      have hil : i < (srtS xs).length := (List.getElem?_eq_some_iff.1 hi).1
      refine ⟨[.string x], ⟨rfl, hin x ((srtS_perm xs).mem_iff.1 hm)⟩, fun j v hj => ?_⟩
      have hj0 : j = 0 := by
        have := (List.getElem?_eq_some_iff.1 hj).1
        simp at this; exact this
      subst hj0
      simp at hj
      subst hj
      have hic : i < cur.size := by rw [hsz]; rw [srtS_length] at hil; simp [strR]; omega
      have hil2 : i < (srtL (xs.map dataL)).length := by unfold srtS at hil; rwa [List.length_map] at hil
      have hx2 : undata (srtL (xs.map dataL))[i] = x := by
        have := hi; unfold srtS at this; rw [List.getElem?_map, List.getElem?_eq_getElem hil2] at this; exact Option.some.inj this
      have he2 : Go.Proofs.encStr (srtL (xs.map dataL))[i] = Value.string x := by rw [← hx2]; simp [Go.Proofs.encStr, undata]
      simp [Go.Sort.putCells, strR, Array.getElem?_mapIdx, hil2, he2, Array.getElem?_eq_getElem hic]
end Go.SL
set_option linter.unusedVariables false
set_option linter.unusedSimpArgs false
namespace Go.SL
open Go Go.Proofs
structure GaStS where
  xs : List ByteArray
  A : Option Addr
  c : Nat
def gaStepS : LS GaStS → ByteArray → LS GaStS → Prop := fun s x s' => s'.2 = none ∧ s'.1.xs = s.1.xs ++ [x]
theorem gaS_runs {s s' : LS GaStS} {xs : List ByteArray} (h0 : s.2 = none) (h : Runs gaStepS (fun s => !s.2.isNone) s xs s') : s'.2 = none ∧ s'.1.xs = s.1.xs ++ xs := by
  induction h with
  | nil s => exact ⟨h0, by simp⟩
  | halt a b => rw [a.1] at b; simp at b
  | go a b c ih => have := ih a.1; rw [a.2] at this; simpa using this
theorem appendSeqS_spec {c : Value} {N : Nat} {Lf Lr : List HP} {seqs : Bool → List ByteArray → Prop} (hi : IterC Try.prog c (fun k : ByteArray => [.string k]) (fun k => k.size ≤ maxEl) N Lf seqs) (hN : N ≤ 2199023255552) : Fn Try.prog 83 #[.slice none 0 0, c] (Lf ++ Lr) (fun v L' => ∃ A' c' xs, v = .slice A' xs.length c' ∧ seqs false xs ∧ L' = osl strR 9 A' c' xs :: (Lf ++ Lr)) := by
  refine Fn_enterM Try.func83 rfl rfl rfl rfl ?_
  refine T_region ?_
  refine TL_box rfl rfl rfl ?_
  intro b2
  refine TL_y rfl rfl (Y_assign rfl) ?_
  refine TL_nil ?_
  refine T_seq ?_
  refine T_region ?_
  refine TL_y rfl rfl (Y_move rfl) ?_
  refine TL_nil ?_
  refine T_block ?_
  refine T_range_iter (fun g : GaStS => [cells b2 [.slice g.A g.xs.length g.c] 69, osl strR 9 g.A g.c g.xs]) (gaStepS) (fun g : GaStS => g.xs.length) (⟨[], none, 0⟩) rfl (hi) ((osl_nil strR 9 none _).trans (Gives.swap _ _ _)) (by decide) (fun _ => rfl) rfl (fun s x s' h => by rw [h.2]; simp) (fun l900 b900 g x Lx hx hlt => ?_) (fun m900 xs g hseq hrun => ?_)
  · obtain ⟨xs, A, c⟩ := g
    dsimp only at hlt
    try simp only [List.cons_append, List.nil_append]
    refine T_region_last ?_
    refine TL_y rfl rfl (Y_assign rfl) ?_
    refine TL_nil ?_
    refine ⟨rfl, _, FindHP.g, ?_⟩
    refine T_block ?_
    refine T_region_last ?_
    refine TL_y rfl rfl (Y_load rfl rfl) ?_
    refine TL_y rfl rfl (Y_move rfl) ?_
    refine TL_build_slice rfl rfl rfl rfl rfl rfl ?_
    intro b10
    refine TL_osl (k := 1) strR [x] (Knows.const fun M => ⟨[.string x], [], ⟨rfl, hx⟩, rfl, rfl⟩) rfl (by decide) ?_
    refine TL_freeze_osl ?_
    refine TL_name 10 (v' := .slice (some ⟨b10, 0, none⟩) [x].length 1) rfl rfl ?_
    refine TL_append rfl rfl rfl rfl rfl slk (by simp only [List.length_cons, List.length_nil]; omega) ?_
    intro A11 c11
    refine TL_store rfl rfl rfl rfl rfl rfl ?_
    refine TL_nil ?_
    refine inB_normal ?_
    exact ⟨⟨xs ++ [x], A11, c11⟩, none, rfl, ⟨rfl, rfl⟩, GivesTo.g⟩
  · obtain ⟨⟨ys, A, c⟩, j⟩ := g
    obtain ⟨rfl, h2⟩ := gaS_runs rfl hrun
    dsimp only at h2
    rw [List.nil_append] at h2
    subst h2
    try simp only [List.cons_append, List.nil_append]
    refine behind_none ?_
    refine inB_normal ?_
    refine thenS_normal ?_
    refine T_region ?_
    refine TL_y rfl rfl (Y_load rfl rfl) ?_
    refine TL_y rfl rfl (Y_assign rfl) ?_
    refine TL_nil ?_
    refine T_ret ?_
    refine retM1 ?_
    exact RetG_1 (.inl rfl) rfl (ResV.tmp rfl) GivesTo.g (⟨A, c, ys, rfl, hseq, rfl⟩)
theorem collectS_spec {c : Value} {N : Nat} {Lf Lr : List HP} {seqs : Bool → List ByteArray → Prop} (hi : IterC Try.prog c (fun k : ByteArray => [.string k]) (fun k => k.size ≤ maxEl) N Lf seqs) (hN : N ≤ 2199023255552) : Fn Try.prog 69 #[c] (Lf ++ Lr) (fun v L' => ∃ A' c' xs, v = .slice A' xs.length c' ∧ seqs false xs ∧ L' = osl strR 9 A' c' xs :: (Lf ++ Lr)) := by
  refine Fn_enter Try.func69 rfl rfl rfl rfl ?_
  refine T_region ?_
  refine TL_y rfl rfl (Y_assign rfl) ?_
  refine TL_nil ?_
  refine T_region ?_
  refine TL_y rfl rfl (Y_move rfl) ?_
  refine TL_call rfl rfl (appendSeqS_spec hi hN) ?_
  rintro _ _ ⟨A4, c4, xs, rfl, hs, rfl⟩
  refine TL_y rfl rfl (Y_assign rfl) ?_
  refine TL_nil ?_
  refine T_ret ?_
  exact RetG_1 (.inl rfl) rfl (ResV.tmp rfl) GivesTo.g (⟨A4, c4, xs, rfl, hs, rfl⟩)
theorem sortedS_spec {c : Value} {N : Nat} {Lf Lr : List HP} {seqs : Bool → List ByteArray → Prop} (hi : IterC Try.prog c (fun k : ByteArray => [.string k]) (fun k => k.size ≤ maxEl) N Lf seqs) (hN : N ≤ 2199023255552) : Fn Try.prog 39 #[c] (Lf ++ Lr) (fun v L' => ∃ A' c' xs, v = .slice A' (srtS xs).length c' ∧ seqs false xs ∧ L' = osl strR 9 A' c' (srtS xs) :: (Lf ++ Lr)) := by
  refine Fn_enter Try.func39 rfl rfl rfl rfl ?_
  refine T_region ?_
  refine TL_y rfl rfl (Y_assign rfl) ?_
  refine TL_nil ?_
  refine T_region ?_
  refine TL_y rfl rfl (Y_move rfl) ?_
  refine TL_call rfl rfl (collectS_spec hi hN) ?_
  rintro _ _ ⟨A5, c5, xs, rfl, hs, rfl⟩
  refine TL_fact osl_len (fun _ h => h) fun hl5 => ?_
  simp only [maxEl] at hl5
  refine TL_y rfl rfl (Y_assign rfl) ?_
  refine TL_nil ?_
  refine T_region ?_
  refine TL_y rfl rfl (Y_move rfl) ?_
  refine TL_call rfl rfl (sortS_spec (by omega)) ?_
  rintro _ _ ⟨rfl, rfl⟩
  refine TL_nil ?_
  refine T_region ?_
  refine TL_y rfl rfl (Y_move rfl) ?_
  refine TL_y rfl rfl (Y_assign rfl) ?_
  refine TL_nil ?_
  refine T_ret ?_
  rw [← srtS_length xs]
  exact RetG_1 (.inl rfl) rfl (ResV.tmp rfl) GivesTo.g (⟨A5, c5, xs, rfl, hs, rfl⟩)
end Go.SL
