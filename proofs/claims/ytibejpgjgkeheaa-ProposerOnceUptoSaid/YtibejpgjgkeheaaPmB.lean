/- What the laws of this claim need, together: the logic, data in memory, the walks of functions. -/
import Derived.Test.YtibejpgjgkeheaaPmA
import Derived.Maps.RangeRun
import Derived.Maps.Keyed
import Derived.Test.YtibejpgjgkeheaaProg
import Derived.KernelRfl
set_option linter.unusedVariables false
set_option linter.unusedSimpArgs false
set_option linter.unusedVariables false
set_option linter.unusedSimpArgs false
set_option linter.unusedSectionVars false
namespace Go.SL
open Go Go.MapKept Go.WideShapes
open Go.ChangeMaps (setBlock)

/-! ### Keys -/
structure KeyT (κ : Type) where
  enc : κ → Value
  ok : κ → Prop
  inj : ∀ a b, enc a = enc b → a = b
def intK : KeyT Int := ⟨fun x => .int .i64 x, intIn .i64, fun a b h => by injection h⟩
def strK : KeyT ByteArray := ⟨fun s => .string s, fun s => s.size ≤ maxEl, fun a b h => by injection h⟩
class KeyOk (P : Program) (t : TypeId) {κ : Type} (K : KeyT κ) : Prop where
  law : Maps.Keyed P t
  key : ∀ k, K.ok k → ∃ l, keyOf P t (K.enc k) = some l
theorem wf_of_in {k : IntKind} {n : Int} (h : intIn k n) : (Lit.int k n).wf = true := by
  simp only [Lit.wf, Bool.and_eq_true, decide_eq_true_eq]; exact h
instance {P : Program} {t : TypeId} [ht : TyDesc P t (.int .i64)] : KeyOk P t intK := ⟨Maps.int_keyed ht.under, fun k hk => ⟨_, Maps.keyOf_int_mk ht.under (wf_of_in hk)⟩⟩
instance {P : Program} {t : TypeId} [ht : TyDesc P t .string] : KeyOk P t strK := ⟨Maps.string_keyed ht.under, fun k hk => ⟨_, WideMaps.keyOf_string_mk ht.under (by have : k.size ≤ maxEl := hk; simp only [maxEl] at this; simp only [maxLen]; omega)⟩⟩
def wrapV : Bool → List Value → Value
  | true, cs => .agg cs.toArray
  | false, [v] => v
  | false, _ => undef
/-- Whose values are known by what they say. -/
class RepV {α : Type} (R : Rep α) (f : outParam (α → Value)) : Prop where
  e : ∀ M x cs, R.rep M x cs → wrapV false cs = f x
instance {k : IntKind} : RepV (intR k) (fun x => .int k x) := ⟨fun M x cs h => by rw [h.1]; rfl⟩
instance : RepV boolR (fun x => .bool x) := ⟨fun M x cs h => by rw [h]; rfl⟩
instance : RepV strR (fun x => .string x) := ⟨fun M x cs h => by rw [h.1]; rfl⟩
/-- A pointer to the front of a block. -/
def ptrR : Rep Nat := ⟨1, fun _ b cs => cs = [.pointer (some ⟨b, 0, none⟩)], fun _ h => h, fun h => by simp [h], fun h v hv => by rw [h] at hv; simp at hv; subst hv; rfl⟩
instance : RepV ptrR (fun b => .pointer (some ⟨b, 0, none⟩)) := ⟨fun M x cs h => by rw [h]; rfl⟩

/-! ### Lists of pairs -/
section pairs
variable {κ α : Type} [DecidableEq κ]
def getM (m : List (κ × α)) (k : κ) : Option α := (m.find? fun p => decide (p.1 = k)).map (·.2)
def delM (m : List (κ × α)) (k : κ) : List (κ × α) := m.filter fun p => !decide (p.1 = k)
def ND (m : List (κ × α)) : Prop := m.Pairwise fun p q => p.1 ≠ q.1
theorem getM_mem {m : List (κ × α)} {k : κ} {u : α} (h : getM m k = some u) : (k, u) ∈ m := by
  unfold getM at h
  cases e : m.find? fun p => decide (p.1 = k) with
  | none => rw [e] at h; cases h
  | some p =>
    rw [e] at h
    simp only [Option.map_some, Option.some.injEq] at h
    have h1 := List.mem_of_find?_eq_some e
    have h2 := List.find?_some e
    have h3 : p.1 = k := by simpa using h2
    obtain ⟨a, b⟩ := p
    simp only at h h3
    subst h; subst h3; exact h1
theorem getM_none {m : List (κ × α)} {k : κ} : getM m k = none ↔ ∀ p ∈ m, p.1 ≠ k := by
  unfold getM
  rw [Option.map_eq_none_iff, List.find?_eq_none]
  exact ⟨fun h p hp e => h p hp (by simpa using e), fun h p hp e => h p hp (by simpa using e)⟩
theorem nd_unique : ∀ {m : List (κ × α)} {k : κ} {u v : α}, ND m → (k, u) ∈ m → (k, v) ∈ m → u = v
  | [], _, _, _, _, h, _ => by cases h
  | p :: m, k, u, v, hn, h1, h2 => by
    obtain ⟨a, b⟩ := List.pairwise_cons.1 hn
    rcases List.mem_cons.1 h1 with h1 | h1 <;> rcases List.mem_cons.1 h2 with h2 | h2
    · rw [← h1] at h2; exact (congrArg Prod.snd h2).symm
    · exact absurd (by rw [← h1]) (a _ h2)
    · exact absurd (by rw [← h2]) (a _ h1)
    · exact nd_unique b h1 h2
theorem getM_of_mem {m : List (κ × α)} (hn : ND m) {k : κ} {u : α} (h : (k, u) ∈ m) : getM m k = some u := by
  cases e : getM m k with
  | none => exact absurd rfl (getM_none.1 e _ h)
  | some v => rw [nd_unique hn (getM_mem e) h]
theorem nd_perm {m m' : List (κ × α)} (h : m.Perm m') (hn : ND m) : ND m' := (h.pairwise_iff (fun {_ _} hne => Ne.symm hne)).1 hn
theorem del_none {m : List (κ × α)} {k : κ} (h : getM m k = none) : delM m k = m := List.filter_eq_self.2 fun p hp => by simpa using getM_none.1 h p hp
end pairs

/-! ### Entries -/
section
variable {κ α : Type} {K : KeyT κ} {R : Rep α} {ag : Bool}
def EntIs (K : KeyT κ) (R : Rep α) (ag : Bool) (M : Mem) (e : MapEntry) (p : κ × α) : Prop := e.key = K.enc p.1 ∧ K.ok p.1 ∧ ∃ cs, R.rep M p.2 cs ∧ e.val = wrapV ag cs
def Ents (K : KeyT κ) (R : Rep α) (ag : Bool) (M : Mem) (es : List MapEntry) (l : List (κ × α)) : Prop :=
  es.length = l.length ∧ ∀ (i : Nat) (e : MapEntry) (p : κ × α), es[i]? = some e → l[i]? = some p → EntIs K R ag M e p
theorem Ents.mono {M N : Mem} (hM : M.le N) {es : List MapEntry} {l : List (κ × α)} (h : Ents K R ag M es l) : Ents K R ag N es l :=
  ⟨h.1, fun i e p he hp => let ⟨a, b, cs, c, d⟩ := h.2 i e p he hp; ⟨a, b, cs, R.mono hM c, d⟩⟩
theorem Ents.at_ {M : Mem} {es : List MapEntry} {l : List (κ × α)} (h : Ents K R ag M es l) {i : Nat} {e : MapEntry} (he : es[i]? = some e) : ∃ p, l[i]? = some p ∧ EntIs K R ag M e p := by
  have hi := (List.getElem?_eq_some_iff.1 he).1
  obtain ⟨p, hp⟩ : ∃ p, l[i]? = some p := ⟨_, List.getElem?_eq_getElem (by rw [← h.1]; exact hi)⟩
  exact ⟨p, hp, h.2 i e p he hp⟩
theorem Ents.mem {M : Mem} {es : List MapEntry} {l : List (κ × α)} (h : Ents K R ag M es l) {e : MapEntry} (he : e ∈ es) : ∃ p ∈ l, EntIs K R ag M e p := by
  obtain ⟨i, hi⟩ := List.getElem?_of_mem he
  obtain ⟨p, hp, hr⟩ := h.at_ hi
  exact ⟨p, List.mem_of_getElem? hp, hr⟩
theorem Ents.mem' {M : Mem} {es : List MapEntry} {l : List (κ × α)} (h : Ents K R ag M es l) {p : κ × α} (hp : p ∈ l) : ∃ e ∈ es, EntIs K R ag M e p := by
  obtain ⟨i, hi⟩ := List.getElem?_of_mem hp
  have hil := (List.getElem?_eq_some_iff.1 hi).1
  obtain ⟨e, he⟩ : ∃ e, es[i]? = some e := ⟨_, List.getElem?_eq_getElem (by rw [h.1]; exact hil)⟩
  exact ⟨e, List.mem_of_getElem? he, h.2 i e p he hi⟩
theorem Ents.nd [DecidableEq κ] {M : Mem} {es : List MapEntry} {l : List (κ × α)} (h : Ents K R ag M es l) (hs : es.Pairwise fun x y => x.key ≠ y.key) : ND l := by
  rw [ND, List.pairwise_iff_getElem]
  intro i j hi hj hij e
  rw [List.pairwise_iff_getElem] at hs
  have hi' : i < es.length := by rw [h.1]; exact hi
  have hj' : j < es.length := by rw [h.1]; exact hj
  have h1 := h.2 i _ _ (List.getElem?_eq_getElem hi') (List.getElem?_eq_getElem hi)
  have h2 := h.2 j _ _ (List.getElem?_eq_getElem hj') (List.getElem?_eq_getElem hj)
  exact hs i j hi' hj' hij (by rw [h1.1, h2.1, e])
theorem Ents.push {M : Mem} {es : List MapEntry} {l : List (κ × α)} (h : Ents K R ag M es l) {e : MapEntry} {p : κ × α} (hp : EntIs K R ag M e p) : Ents K R ag M (es ++ [e]) (l ++ [p]) := by
  refine ⟨by simp [h.1], fun i e' p' he hp' => ?_⟩
  by_cases hi : i < es.length
  · rw [List.getElem?_append_left hi] at he
    rw [List.getElem?_append_left (by rw [← h.1]; exact hi)] at hp'
    exact h.2 i e' p' he hp'
  · rw [List.getElem?_append_right (by omega)] at he
    rw [List.getElem?_append_right (by have := h.1; omega)] at hp'
    have hz : i - es.length = 0 := by
      have := (List.getElem?_eq_some_iff.1 he).1
      simp at this; omega
    have hz2 : i - l.length = 0 := by have := h.1; omega
    rw [hz] at he; rw [hz2] at hp'
    simp at he hp'
    subst he; subst hp'; exact hp
theorem Ents.set {M : Mem} {es : List MapEntry} {l : List (κ × α)} (h : Ents K R ag M es l) {e : MapEntry} {p : κ × α} (j : Nat) (hp : EntIs K R ag M e p) : Ents K R ag M (es.set j e) (l.set j p) := by
  refine ⟨by simp [h.1], fun i e' p' he hp' => ?_⟩
  rw [List.getElem?_set] at he hp'
  by_cases hij : j = i
  · subst hij
    simp only [if_true] at he hp'
    split at he
    · cases he
      split at hp'
      · cases hp'; exact hp
      · cases hp'
    · cases he
  · rw [if_neg hij] at he hp'
    exact h.2 i e' p' he hp'
theorem Ents.erase {M : Mem} {es : List MapEntry} {l : List (κ × α)} (h : Ents K R ag M es l) (j : Nat) : Ents K R ag M (es.eraseIdx j) (l.eraseIdx j) := by
  refine ⟨by simp only [List.length_eraseIdx, h.1], fun i e' p' he hp' => ?_⟩
  rw [List.getElem?_eraseIdx] at he hp'
  by_cases hij : i < j
  · rw [if_pos hij] at he hp'; exact h.2 i e' p' he hp'
  · rw [if_neg hij] at he hp'; exact h.2 _ e' p' he hp'

/-! ### Maps of ours -/
def mapAt (K : KeyT κ) (R : Rep α) (ag : Bool) (M h : Mem) (b : Nat) (m : List (κ × α)) : Prop :=
  ∃ es clock l, h b = some (.map es clock) ∧ Stamped es clock ∧ l.Perm m ∧ Ents K R ag M es.toList l
def omap (K : KeyT κ) (R : Rep α) (ag : Bool) (b : Nat) (m : List (κ × α)) : HP :=
  ⟨fun M h => mapAt K R ag M h b m, fun hM hh ⟨es, c, l, h1, h2, h3, h4⟩ => ⟨es, c, l, hh _ _ h1, h2, h3, h4.mono hM⟩⟩
class FindM (L : List HP) (b : Nat) (κ : outParam Type) (α : outParam Type) (K : outParam (KeyT κ)) (R : outParam (Rep α)) (ag : outParam Bool) (m : outParam (List (κ × α))) (L' : outParam (List HP)) : Prop where
  g : Gives L (omap K R ag b m :: L')
instance findM_tail {p : HP} {L L' : List HP} {b : Nat} {κ α : Type} {K : KeyT κ} {R : Rep α} {ag : Bool} {m : List (κ × α)} [h : FindM L b κ α K R ag m L'] : FindM (p :: L) b κ α K R ag m (p :: L') := ⟨(Gives.cons p h.g).trans (Gives.swap p _ _)⟩
instance findM_head {L : List HP} {b : Nat} {κ α : Type} {K : KeyT κ} {R : Rep α} {ag : Bool} {m : List (κ × α)} : FindM (omap K R ag b m :: L) b κ α K R ag m L := ⟨Gives.refl _⟩
end
section
variable {r : Option Nat} {n : Nat} {P : Program} {ops : Array Oper} {rest : List Oper} {KK : St → Prop} {Q : Exit → St → Prop} {D : List Deferred} {E : Env} {L L' L0 : List HP} {d : Nat} {ty : TypeId} {pos : String} {af : Array Edge}
variable {κ α : Type} [DecidableEq κ] {K : KeyT κ} {R : Rep α} {ag : Bool} {b : Nat} {m : List (κ × α)}
/-- A new map. -/
theorem TL_makeMap {t kt et : TypeId} (K : KeyT κ) (R : Rep α) (ag : Bool) [ht : TyDesc P t (.map kt et)] (hd : Nat.blt d n = true) (h : ∀ b, TL r n P ops rest ⟨D, (d, .map (some b)) :: E, omap K R ag b [] :: L⟩ KK) :
    TL r n P ops (⟨some d, .makeMap t none, ty, pos, af, none⟩ :: rest) ⟨D, E, L⟩ KK :=
  TL_val rfl hd rfl (fun _ e => by cases e) fun W a w hh => ⟨_, w.alloc (.map #[] 0), omap K R ag w.heap.size [] :: L, by simp only [execOp, Instr.makeMap]; rfl,
    (hh.2.alloc _).gives fun M k ⟨h1, h2, hd, l1, l2, hp, hs⟩ => ⟨h1, h2, hd, l1, l2, ⟨#[], 0, [], hp, stamped_empty 0, List.Perm.refl _, ⟨rfl, fun i e p he => by simp at he⟩⟩, hs⟩, h _⟩
/-- What is found at a key. -/
theorem find_run {kt : TypeId} [hk : KeyOk P kt K] {k : κ} (hok : K.ok k) {M : Mem} {es : Array MapEntry} {clock : Nat} {l : List (κ × α)} (hst : Stamped es clock) (hp : l.Perm m) (he : Ents K R ag M es.toList l) (w : World) :
    (getM m k = none ∧ (Instr.findKey kt (K.enc k) es.toList).run P w = .ok none w ∧ ∀ e ∈ es.toList, e.key ≠ K.enc k) ∨
    ∃ j e u cs, getM m k = some u ∧ (Instr.findKey kt (K.enc k) es.toList).run P w = .ok (some (j, e.val)) w ∧ es.toList[j]? = some e ∧ e.key = K.enc k ∧ l[j]? = some (k, u) ∧ R.rep M u cs ∧ e.val = wrapV ag cs := by
  obtain ⟨lx, hlx⟩ := hk.key k hok
  have hnd := nd_perm hp (he.nd ((stamped_iff es clock).1 hst).2.2)
  rcases hk.law.find w hlx es.toList (fun e hem => by obtain ⟨p, _, h1, h2, _⟩ := he.mem hem; rw [h1]; exact hk.key _ h2) with ⟨h1, h2⟩ | ⟨j, e, h1, h2, h3⟩
  · refine .inl ⟨getM_none.2 fun p hpm e => ?_, h1, h2⟩
    obtain ⟨e', hem, q1, _⟩ := he.mem' (hp.mem_iff.2 hpm)
    exact h2 e' hem (by rw [q1, e])
  · obtain ⟨p, hpl, q1, q2, cs, q3, q4⟩ := he.at_ h2
    have hpk : p.1 = k := K.inj _ _ (by rw [← q1, h3])
    obtain ⟨pk, pu⟩ := p
    simp only at hpk; subst hpk
    exact .inr ⟨j, e, pu, cs, getM_of_mem hnd (hp.mem_iff.1 (List.mem_of_getElem? hpl)), h1, h2, h3, hpl, q3, q4⟩
theorem check_run {kt : TypeId} [hk : KeyOk P kt K] {k : κ} (hok : K.ok k) (em : Bool) (w : World) : (Instr.checkKey em 10000 kt (K.enc k)).run P w = .ok () w := by
  obtain ⟨lx, hlx⟩ := hk.key k hok
  exact hk.law.check w em hlx
theorem look_run {t kt et : TypeId} {z : Value} [ht : TyDesc P t (.map kt et)] [hk : KeyOk P kt K] [hz : TyZero P et z] {k : κ} (hok : K.ok k) (c : Bool) {W w : World} (hs : Sat W w (omap K R ag b m :: L)) :
    (getM m k = none ∧ (Instr.lookup t (.map (some b)) (K.enc k) c).run P w = .ok (if c then .tuple #[z, .bool false] else z) w) ∨
    ∃ u cs, getM m k = some u ∧ Sat W w (is R u cs :: omap K R ag b m :: L) ∧ (Instr.lookup t (.map (some b)) (K.enc k) c).run P w = .ok (if c then .tuple #[wrapV ag cs, .bool true] else wrapV ag cs) w := by
  obtain ⟨M, q, hd, hM, hq, h1, h2, hd', l1, l2, ⟨es, clock, l, hb, hst, hp, he⟩, hsep⟩ := hs.ex
  have hbw : w.heap[b]? = some (.map es clock) := hq _ _ (l1 _ _ hb)
  have hc := check_run (P := P) (kt := kt) hok es.isEmpty w
  rcases find_run (P := P) (kt := kt) hok hst hp he w with ⟨g1, g2, g3⟩ | ⟨j, e, u, cs, g1, g2, g3, g4, g5, g6, g7⟩
  · exact .inl ⟨g1, by cases c <;> simp [Instr.lookup, ht.run, MapKept.run_getObj_map hbw, hc, g2, hz.run, Result.andThen]⟩
  · refine .inr ⟨u, cs, g1, ⟨⟨M, q, hd, hM, hq, Mem.emp, q, Mem.emp_disj _, Mem.emp_le _, Mem.le_refl _, g6, h1, h2, hd', l1, l2, ⟨es, clock, l, hb, hst, hp, he⟩, hsep⟩, hs.os, hs.tape, hs.output, hs.size⟩, ?_⟩
    rw [← g7]
    cases c <;> simp [Instr.lookup, ht.run, MapKept.run_getObj_map hbw, hc, g2, hz.run, Result.andThen]
theorem TL_lookup {x y : Operand} {t kt et : TypeId} {z : Value} {k : κ} [ht : TyDesc P t (.map kt et)] [hf : FindM L b κ α K R ag m L0] [hk : KeyOk P kt K] [hz : TyZero P et z] (hd : Nat.blt d n = true) (hx : ev E x = some (.map (some b))) (hy : ev E y = some (K.enc k)) (hok : K.ok k)
    (h0 : getM m k = none → TL r n P ops rest ⟨D, (d, z) :: E, L⟩ KK) (h1 : ∀ u cs, getM m k = some u → TL r n P ops rest ⟨D, (d, wrapV ag cs) :: E, is R u cs :: omap K R ag b m :: L0⟩ KK) :
    TL r n P ops (⟨some d, .lookup t x y false, ty, pos, af, none⟩ :: rest) ⟨D, E, L⟩ KK :=
  TL_val rfl hd rfl (fun _ e => by cases e) fun W a w hh => by
    rcases look_run (P := P) (t := t) (kt := kt) (et := et) (z := z) hok false (hh.2.gives hf.g) with ⟨g1, g2⟩ | ⟨u, cs, g1, g2, g3⟩
    · exact ⟨z, w, L, by simp [execOp, hh.1.ev hx, hh.1.ev hy, g2], hh.2, h0 g1⟩
    · exact ⟨wrapV ag cs, w, _, by simp [execOp, hh.1.ev hx, hh.1.ev hy, g3], g2, h1 u cs g1⟩
theorem TL_lookup_ok {x y : Operand} {t kt et : TypeId} {z : Value} {k : κ} [ht : TyDesc P t (.map kt et)] [hf : FindM L b κ α K R ag m L0] [hk : KeyOk P kt K] [hz : TyZero P et z] (hd : Nat.blt d n = true) (hx : ev E x = some (.map (some b))) (hy : ev E y = some (K.enc k)) (hok : K.ok k)
    (h0 : getM m k = none → TL r n P ops rest ⟨D, (d, .tuple #[z, .bool false]) :: E, L⟩ KK) (h1 : ∀ u cs, getM m k = some u → TL r n P ops rest ⟨D, (d, .tuple #[wrapV ag cs, .bool true]) :: E, is R u cs :: omap K R ag b m :: L0⟩ KK) :
    TL r n P ops (⟨some d, .lookup t x y true, ty, pos, af, none⟩ :: rest) ⟨D, E, L⟩ KK :=
  TL_val rfl hd rfl (fun _ e => by cases e) fun W a w hh => by
    rcases look_run (P := P) (t := t) (kt := kt) (et := et) (z := z) hok true (hh.2.gives hf.g) with ⟨g1, g2⟩ | ⟨u, cs, g1, g2, g3⟩
    · exact ⟨.tuple #[z, .bool false], w, L, by simp [execOp, hh.1.ev hx, hh.1.ev hy, g2], hh.2, h0 g1⟩
    · exact ⟨.tuple #[wrapV ag cs, .bool true], w, _, by simp [execOp, hh.1.ev hx, hh.1.ev hy, g3], g2, h1 u cs g1⟩
def lookV (f : α → Value) (z : Value) : Option α → Value
  | none => z
  | some u => f u
abbrev entsP (K : KeyT κ) (R : Rep α) (ag : Bool) (es : List MapEntry) (l : List (κ × α)) : HP := pers (fun M => Ents K R ag M es l) (fun hM h => h.mono hM)
theorem omap_open {W w : World} (h : Sat W w (omap K R ag b m :: L)) : ∃ es clock l, Stamped es clock ∧ l.Perm m ∧ Sat W w (own b (.map es clock) :: entsP K R ag es.toList l :: L) := by
  obtain ⟨M, k, hd, hM, hk, h1, h2, hd', l1, l2, ⟨es, c, l, q1, q2, q3, q4⟩, hs⟩ := h.ex
  exact ⟨es, c, l, q2, q3, ⟨M, k, hd, hM, hk, h1, h2, hd', l1, l2, q1, Mem.emp, h2, Mem.emp_disj _, Mem.emp_le _, Mem.le_refl _, q4, hs⟩, h.os, h.tape, h.output, h.size⟩
theorem omap_close {es : Array MapEntry} {clock : Nat} {l : List (κ × α)} (h1 : Stamped es clock) (h2 : l.Perm m) : Gives (own b (.map es clock) :: entsP K R ag es.toList l :: L) (omap K R ag b m :: L) := fun M k ⟨g1, g2, gd, l1, l2, hp, g3, g4, gd', l3, l4, he, hs⟩ =>
  ⟨g1, g4, Mem.disj_le gd (Mem.le_refl _) l4, l1, Mem.le_trans l4 l2, ⟨es, clock, l, hp, h1, h2, he⟩, hs⟩
theorem sat_setBlock {W w : World} {x y : Obj} (h : Sat W w (own b x :: L)) : Sat W (setBlock w b y) (own b y :: L) := by
  have hb := h.own_at
  have hlt : b < w.heap.size := (Array.getElem?_eq_some_iff.1 hb).1
  exact Sat.set h (by simp [setBlock, hlt]) (fun i hi => by simp [setBlock, Array.getElem?_setIfInBounds_ne (Ne.symm hi)]) rfl rfl rfl (by simp [setBlock])
theorem delM_erase : ∀ {l : List (κ × α)} {j : Nat} {k : κ} {u : α}, ND l → l[j]? = some (k, u) → delM l k = l.eraseIdx j
  | [], j, k, u, _, h => by simp at h
  | p :: l, 0, k, u, hn, h => by
    simp at h; subst h
    obtain ⟨a, b⟩ := List.pairwise_cons.1 hn
    have : getM l k = none := getM_none.2 fun q hq e => a q hq e.symm
    have h2 := del_none this
    unfold delM at h2 ⊢
    rw [List.filter_cons_of_neg (by simp), h2]; simp
  | p :: l, j + 1, k, u, hn, h => by
    obtain ⟨a, b⟩ := List.pairwise_cons.1 hn
    have h' : l[j]? = some (k, u) := by simpa using h
    have hp : p.1 ≠ k := a _ (List.mem_of_getElem? h')
    have ih := delM_erase b h'
    unfold delM at ih ⊢
    rw [List.filter_cons_of_pos (by simp [hp]), ih]; simp
theorem set_perm : ∀ {l : List (κ × α)} {j : Nat} {p : κ × α}, j < l.length → (l.set j p).Perm (p :: l.eraseIdx j)
  | [], j, p, h => by simp at h
  | q :: l, 0, p, h => by simp
  | q :: l, j + 1, p, h => by
    simp only [List.set_cons_succ, List.eraseIdx_cons_succ]
    exact ((set_perm (by simpa using h)).cons q).trans (List.Perm.swap _ _ _)
theorem delM_perm {l m : List (κ × α)} (h : l.Perm m) (k : κ) : (delM l k).Perm (delM m k) := h.filter _
theorem upd_run {t kt et : TypeId} [ht : TyDesc P t (.map kt et)] [hk : KeyOk P kt K] {k : κ} (hok : K.ok k) {u : α} {cs : List Value} {m' : List (κ × α)} (hr : Knows L (fun M => R.rep M u cs)) (hm : ((k, u) :: delM m k).Perm m') {W w : World} (hs : Sat W w (omap K R ag b m :: L)) :
    ∃ w', (Instr.mapUpdate t (.map (some b)) (K.enc k) (wrapV ag cs)).run P w = .ok () w' ∧ Sat W w' (omap K R ag b m' :: L) := by
  obtain ⟨es, clock, l, hst, hp, hs1⟩ := omap_open hs
  have hbw : w.heap[b]? = some (.map es clock) := hs1.own_at
  obtain ⟨M, _, he⟩ := hs1.knows (φ := fun M => Ents K R ag M es.toList l) (Knows.tail Knows.head)
  have hnd : ND l := he.nd ((stamped_iff es clock).1 hst).2.2
  obtain ⟨lx, hlx⟩ := hk.key k hok
  have hc := check_run (P := P) (kt := kt) hok false w
  have hstay := hk.law.stays w hlx
  rcases find_run (P := P) (kt := kt) hok hst hp he w with ⟨g1, g2, g3⟩ | ⟨j, e, u0, cs0, g1, g2, g3, g4, g5, g6, g7⟩
  · refine ⟨setBlock w b (.map (es.push ⟨K.enc k, wrapV ag cs, clock⟩) (clock + 1)), ?_, (sat_setBlock hs1).gives (Gives.trans ?_ (omap_close (l := l ++ [(k, u)]) (stamped_push (val := wrapV ag cs) hst g3) ?_))⟩
    · simp [Instr.mapUpdate, ht.run, MapKept.run_getObj_map hbw, hc, g2, MapKept.run_setObj_map _ hbw, Result.andThen, setBlock]
    · intro N q ⟨a1, a2, ad, b1, b2, ho, a3, a4, ad', b3, b4, hen, hsep⟩
      refine ⟨a1, a2, ad, b1, b2, ho, a3, a4, ad', b3, b4, ?_, hsep⟩
      show Ents K R ag N (es.push ⟨K.enc k, wrapV ag cs, clock⟩).toList (l ++ [(k, u)])
      rw [Array.toList_push]
      exact Ents.push hen ⟨rfl, hok, cs, hr N a4 hsep, rfl⟩
    · refine List.Perm.trans ?_ hm
      rw [del_none g1]
      exact (List.perm_append_singleton _ _).trans (hp.cons _)
  · have hj : es[j]? = some e := by simpa using g3
    have hlist : (es.modify j (fun e' => { e' with key := K.enc k, val := wrapV ag cs })).toList = es.toList.set j { e with key := K.enc k, val := wrapV ag cs } := by rw [Array.toList_modify, ChangeMaps.modify_eq_set _ _ _ _ g3]
    refine ⟨setBlock w b (.map (es.modify j (fun e' => { e' with key := K.enc k, val := wrapV ag cs })) clock), ?_, (sat_setBlock hs1).gives (Gives.trans ?_ (omap_close (l := l.set j (k, u)) (stamped_modify hst j (fun e' => { e' with key := K.enc k, val := wrapV ag cs }) (fun _ _ => rfl) (fun e' _ he' => by rw [hj] at he'; cases he'; exact g4.symm)) ?_))⟩
    · simp [Instr.mapUpdate, ht.run, MapKept.run_getObj_map hbw, hc, g2, hj, g4, hstay, MapKept.run_setObj_map _ hbw, Result.andThen, setBlock]
    · intro N q ⟨a1, a2, ad, b1, b2, ho, a3, a4, ad', b3, b4, hen, hsep⟩
      refine ⟨a1, a2, ad, b1, b2, ho, a3, a4, ad', b3, b4, ?_, hsep⟩
      show Ents K R ag N (es.modify j _).toList (l.set j (k, u))
      rw [hlist]
      exact Ents.set hen j ⟨rfl, hok, cs, hr N a4 hsep, rfl⟩
    · refine List.Perm.trans ?_ hm
      refine (set_perm (List.getElem?_eq_some_iff.1 g5).1).trans (List.Perm.cons _ ?_)
      rw [← delM_erase hnd g5]
      exact delM_perm hp k
theorem TL_update {x y z : Operand} {t kt et : TypeId} {k : κ} {u : α} {cs : List Value} (m' : List (κ × α)) [ht : TyDesc P t (.map kt et)] [hf : FindM L b κ α K R ag m L0] [hk : KeyOk P kt K] (hx : ev E x = some (.map (some b))) (hy : ev E y = some (K.enc k)) (hz : ev E z = some (wrapV ag cs)) (hok : K.ok k) (hr : Knows L0 (fun M => R.rep M u cs)) (hm : ((k, u) :: delM m k).Perm m')
    (h : TL r n P ops rest ⟨D, E, omap K R ag b m' :: L0⟩ KK) : TL r n P ops (⟨none, .mapUpdate t x y z, ty, pos, af, none⟩ :: rest) ⟨D, E, L⟩ KK :=
  TL_skip rfl rfl (fun _ e => by cases e) fun W a w hh => by
    obtain ⟨w', hrun, hs⟩ := upd_run (P := P) (t := t) (kt := kt) (et := et) hok hr hm (hh.2.gives hf.g)
    exact ⟨.skip, w', _, by simp [execOp, hh.1.ev hx, hh.1.ev hy, hh.1.ev hz, hrun], .inl rfl, hs, h⟩
theorem del_run {t kt et ty0 : TypeId} [ht : TyDesc P t (.map kt et)] [hk : KeyOk P kt K] {k : κ} (hok : K.ok k) {W w : World} (hs : Sat W w (omap K R ag b m :: L)) (u : TypeId) :
    ∃ w', (Builtin.delete_ #[t, u] ty0 #[.map (some b), K.enc k]).run P w = .ok (.tuple #[]) w' ∧ Sat W w' (omap K R ag b (delM m k) :: L) := by
  obtain ⟨es, clock, l, hst, hp, hs1⟩ := omap_open hs
  have hbw : w.heap[b]? = some (.map es clock) := hs1.own_at
  obtain ⟨M, _, he⟩ := hs1.knows (φ := fun M => Ents K R ag M es.toList l) (Knows.tail Knows.head)
  have hnd : ND l := he.nd ((stamped_iff es clock).1 hst).2.2
  have hc := check_run (P := P) (kt := kt) hok es.isEmpty w
  rcases find_run (P := P) (kt := kt) hok hst hp he w with ⟨g1, g2, g3⟩ | ⟨j, e, u0, cs0, g1, g2, g3, g4, g5, g6, g7⟩
  · refine ⟨setBlock w b (.map es clock), ?_, (sat_setBlock hs1).gives (omap_close hst ?_)⟩
    · simp [Builtin.delete_, ht.run, MapKept.run_getObj_map hbw, hc, g2, MapKept.run_setObj_map _ hbw, Result.andThen, setBlock]
    · rw [del_none g1]; exact hp
  · have hjl : j < es.toList.length := (List.getElem?_eq_some_iff.1 g3).1
    have hjs : j < es.size := by simpa using hjl
    have hsub : (es.eraseIdxIfInBounds j).toList = es.toList.eraseIdx j := by
      unfold Array.eraseIdxIfInBounds
      rw [dif_pos hjs]
      simp
    refine ⟨setBlock w b (.map (es.eraseIdxIfInBounds j) clock), ?_, (sat_setBlock hs1).gives (Gives.trans ?_ (omap_close (l := l.eraseIdx j) (stamped_erase hst j) ?_))⟩
    · simp [Builtin.delete_, ht.run, MapKept.run_getObj_map hbw, hc, g2, MapKept.run_setObj_map _ hbw, Result.andThen, setBlock]
    · intro N q ⟨a1, a2, ad, b1, b2, ho, a3, a4, ad', b3, b4, hen, hsep⟩
      refine ⟨a1, a2, ad, b1, b2, ho, a3, a4, ad', b3, b4, ?_, hsep⟩
      show Ents K R ag N (es.eraseIdxIfInBounds j).toList (l.eraseIdx j)
      rw [hsub]
      exact Ents.erase hen j
    · rw [← delM_erase hnd g5]
      exact delM_perm hp k
theorem TL_delete0 {x y : Operand} {t kt et u : TypeId} {k : κ} [ht : TyDesc P t (.map kt et)] [hf : FindM L b κ α K R ag m L0] [hk : KeyOk P kt K] (hx : ev E x = some (.map (some b))) (hy : ev E y = some (K.enc k)) (hok : K.ok k)
    (h : TL r n P ops rest ⟨D, E, omap K R ag b (delM m k) :: L0⟩ KK) : TL r n P ops (⟨none, .call { callee := .builtin .delete, args := #[x, y], argTypes := #[t, u] }, ty, pos, af, none⟩ :: rest) ⟨D, E, L⟩ KK :=
  TL_skip rfl rfl (fun _ e => by cases e) fun W a w hh => by
    obtain ⟨w', hrun, hs⟩ := del_run (P := P) (t := t) (kt := kt) (et := et) (ty0 := ty) hok (hh.2.gives hf.g) u
    exact ⟨_, w', _, by simp [execOp, resolve, invoke, builtin, hh.1.ev hx, hh.1.ev hy, hrun]; rfl, .inr ⟨_, rfl⟩, hs, h⟩
theorem Y_len_map {x : Operand} {t kt et : TypeId} [ht : TyDesc P t (.map kt et)] [hf : FindM L b κ α K R ag m L0] (hx : ev E x = some (.map (some b))) : Yl P E L (.call { callee := .builtin .len, args := #[x], argTypes := #[t] }) ty (.int .i64 (m.length : Int)) := fun n D W a w dst pos af g ha hs => by
  obtain ⟨es, clock, l, hst, hp, hs1⟩ := omap_open (hs.gives hf.g)
  have hbw : w.heap[b]? = some (.map es clock) := hs1.own_at
  obtain ⟨M, _, he⟩ := hs1.knows (φ := fun M => Ents K R ag M es.toList l) (Knows.tail Knows.head)
  have : es.size = m.length := by have := he.1; rw [← hp.length_eq, ← this]; simp
  simp [execOp, resolve, invoke, builtin, Builtin.len_, ha.ev hx, ht.run, MapKept.run_getObj_map hbw, Result.andThen, goInt, this]
theorem EqIs.map_nil {t : TypeId} {kt et : TypeId} [ht : TyDesc P t (.map kt et)] {A : Option Nat} : EqIs P t (.map A) (.map none) (decide (A = none)) := fun d w => by
  cases A <;> simp [Op.equalIn, ht.run]

/-! ### Ranging over a map -/
theorem nodup_len : ∀ {n : Nat} {l : List Nat}, l.Nodup → (∀ x ∈ l, x < n) → l.length ≤ n
  | 0, l, _, h => by
    cases l with
    | nil => simp
    | cons x l => have := h x (by simp); omega
  | n + 1, l, hn, h => by
    by_cases hm : n ∈ l
    · have h1 : (l.erase n).length = l.length - 1 := List.length_erase_of_mem hm
      have h2 := nodup_len (n := n) (hn.erase n) (fun x hx => by
        have h3 := (hn.mem_erase_iff).1 hx
        have h4 := h x h3.2
        have h5 := h3.1
        omega)
      have h0 : 0 < l.length := List.length_pos_of_mem hm
      omega
    · have h2 := nodup_len (n := n) hn (fun x hx => by
        have h4 := h x hx
        have h5 : x ≠ n := fun e => hm (e ▸ hx)
        omega)
      omega
/-- The map b and an iterator over it; of m these came. -/
def mrangeAt (K : KeyT κ) (R : Rep α) (ag : Bool) (M h : Mem) (b it : Nat) (m done : List (κ × α)) : Prop :=
  ∃ (es : Array MapEntry) (clock : Nat) (l : List (κ × α)) (seen : Array Nat) (js : List Nat), h b = some (.map es clock) ∧ h it = some (.mapIter (some b) clock seen clock) ∧ it ≠ b ∧ Stamped es clock ∧ l.Perm m ∧ Ents K R ag M es.toList l ∧
    js.Nodup ∧ (∀ j ∈ js, j < l.length) ∧ seen.toList.map some = js.map (fun j => (es.toList[j]?).map (·.born)) ∧ done.map some = js.map (fun j => l[j]?)
def mrange (K : KeyT κ) (R : Rep α) (ag : Bool) (b it : Nat) (m done : List (κ × α)) : HP :=
  ⟨fun M h => mrangeAt K R ag M h b it m done, fun hM hh ⟨es, c, l, seen, js, h1, h2, h3, h4, h5, h6, h7⟩ => ⟨es, c, l, seen, js, hh _ _ h1, hh _ _ h2, h3, h4, h5, h6.mono hM, h7⟩⟩
class FindG (L : List HP) (it : Nat) (b : outParam Nat) (κ : outParam Type) (α : outParam Type) (K : outParam (KeyT κ)) (R : outParam (Rep α)) (ag : outParam Bool) (m : outParam (List (κ × α))) (done : outParam (List (κ × α))) (L' : outParam (List HP)) : Prop where
  g : Gives L (mrange K R ag b it m done :: L')
omit [DecidableEq κ] in
theorem findG_t {p : HP} {L L' : List HP} {b it : Nat} {κ α : Type} {K : KeyT κ} {R : Rep α} {ag : Bool} {m done : List (κ × α)} (h : FindG L it b κ α K R ag m done L') : FindG (p :: L) it b κ α K R ag m done (p :: L') := ⟨(Gives.cons p h.g).trans (Gives.swap p _ _)⟩
instance findG_tail {p : HP} {L L' : List HP} {b it : Nat} {κ α : Type} {K : KeyT κ} {R : Rep α} {ag : Bool} {m done : List (κ × α)} [h : FindG L it b κ α K R ag m done L'] : FindG (p :: L) it b κ α K R ag m done (p :: L') := findG_t h
instance findG_head {L : List HP} {b it : Nat} {κ α : Type} {K : KeyT κ} {R : Rep α} {ag : Bool} {m done : List (κ × α)} : FindG (mrange K R ag b it m done :: L) it b κ α K R ag m done L := ⟨Gives.refl _⟩
theorem TL_range {x : Operand} {t kt et : TypeId} [ht : TyDesc P t (.map kt et)] [hf : FindM L b κ α K R ag m L0] (hd : Nat.blt d n = true) (hx : ev E x = some (.map (some b))) (h : ∀ it, TL r n P ops rest ⟨D, (d, .pointer (some ⟨it, 0, none⟩)) :: E, mrange K R ag b it m [] :: L0⟩ KK) :
    TL r n P ops (⟨some d, .range t x, ty, pos, af, none⟩ :: rest) ⟨D, E, L⟩ KK :=
  TL_val rfl hd rfl (fun _ e => by cases e) fun W a w hh => by
    obtain ⟨es, clock, l, hst, hp, hs1⟩ := omap_open (hh.2.gives hf.g)
    have hbw : w.heap[b]? = some (.map es clock) := hs1.own_at
    have hrun := run_range_map (P := P) w t kt et b es clock ht.under hbw
    refine ⟨_, _, mrange K R ag b w.heap.size m [] :: L0, by simp [execOp, hh.1.ev hx, hrun], (hs1.alloc (.mapIter (some b) clock #[] clock)).gives fun M q ⟨a1, a2, ad, b1, b2, ho, a3, a4, ad', b3, b4, hb, a5, a6, ad2, b5, b6, he, hsep⟩ => ?_, h _⟩
    have hne : w.heap.size ≠ b := by have := (Array.getElem?_eq_some_iff.1 hbw).1; omega
    refine ⟨a1.join a3, a6, Mem.join_disj (Mem.disj_le ad (Mem.le_refl _) (Mem.le_trans b6 b4)) (Mem.disj_le ad' (Mem.le_refl _) b6), Mem.join_le b1 (Mem.le_trans b3 b2), Mem.le_trans b6 (Mem.le_trans b4 b2), ⟨es, clock, l, #[], [], ?_, ?_, hne, hst, hp, he, List.nodup_nil, fun j hj => by simp at hj, rfl, rfl⟩, hsep⟩
    · exact Mem.le_join_right (Mem.disj_le ad (Mem.le_refl _) b3) _ _ hb
    · exact Mem.le_join_left _ _ _ _ ho
/-- The step: all came; or another one comes. -/
theorem TL_next {x : Operand} {it : Nat} {done : List (κ × α)} [hf : FindG L it b κ α K R ag m done L0] (hd : Nat.blt d n = true) (hx : ev E x = some (.pointer (some ⟨it, 0, none⟩)))
    (h0 : done.Perm m → TL r n P ops rest ⟨D, (d, .tuple #[.bool false]) :: E, L⟩ KK)
    (h1 : ∀ p cs, p ∈ m → (∀ q ∈ done, q.1 ≠ p.1) → done.length < m.length → TL r n P ops rest ⟨D, (d, .tuple #[.bool true, K.enc p.1, wrapV ag cs]) :: E, mrange K R ag b it m (done ++ [p]) :: L0⟩ KK) :
    TL r n P ops (⟨some d, .next x false, ty, pos, af, none⟩ :: rest) ⟨D, E, L⟩ KK :=
  TL_val rfl hd rfl (fun _ e => by cases e) fun W a w hh => by
    obtain ⟨M, q, hd', hM, hq, a1, a2, ad, l1, l2, ⟨es, clock, l, seen, js, hb, hit, hne, hst, hp, he, hnj, hlj, hseen, hdone⟩, hsep⟩ := (hh.2.gives hf.g).ex
    have hbw : w.heap[b]? = some (.map es clock) := hq _ _ (l1 _ _ hb)
    have hiw : w.heap[it]? = some (.mapIter (some b) clock seen clock) := hq _ _ (l1 _ _ hit)
    have hst' := (stamped_iff es clock).1 hst
    have hnd : ND l := he.nd hst'.2.2
    -- an entry's number is among those that came just where its stamp is
    have hin : ∀ (j : Nat) (e : MapEntry), es.toList[j]? = some e → (seen.contains e.born = true ↔ j ∈ js) := fun j e hj => by
      rw [Array.contains_iff_mem, ← Array.mem_toList_iff]
      constructor
      · intro hmem
        have : some e.born ∈ seen.toList.map some := List.mem_map.2 ⟨_, hmem, rfl⟩
        rw [hseen] at this
        obtain ⟨j', hj', e2⟩ := List.mem_map.1 this
        have hj'l : j' < es.toList.length := by rw [he.1]; exact hlj j' hj'
        rw [List.getElem?_eq_getElem hj'l] at e2
        simp only [Option.map_some, Option.some.injEq] at e2
        have hnb := hst'.2.1
        rw [List.Nodup, List.pairwise_iff_getElem] at hnb
        have hjl := (List.getElem?_eq_some_iff.1 hj).1
        have hjj : j' = j := by
          refine Classical.byContradiction fun hne' => ?_
          rcases Nat.lt_or_gt_of_ne hne' with hlt | hlt
          · exact hnb j' j (by simpa using hj'l) (by simpa using hjl) hlt (by rw [List.getElem_map, List.getElem_map, e2, ← (List.getElem?_eq_some_iff.1 hj).2])
          · exact hnb j j' (by simpa using hjl) (by simpa using hj'l) hlt (by rw [List.getElem_map, List.getElem_map, e2, ← (List.getElem?_eq_some_iff.1 hj).2])
        rw [← hjj]; exact hj'
      · intro hj'
        have : (es.toList[j]?).map (·.born) ∈ js.map (fun j => (es.toList[j]?).map (·.born)) := List.mem_map.2 ⟨j, hj', rfl⟩
        rw [← hseen, hj] at this
        obtain ⟨x, hx, e2⟩ := List.mem_map.1 this
        simp only [Option.map_some, Option.some.injEq] at e2
        rw [← e2]; exact hx
    rcases run_next_at (P := P) w ty it b clock clock seen es clock hiw hbw hst.1 (Nat.le_refl _) with ⟨g0, grun⟩ | ⟨e, hel, w1, hal, grun⟩
    · refine ⟨.tuple #[.bool false], w, L, by simp [execOp, hh.1.ev hx, grun], hh.2, h0 ?_⟩
      have hall := all_seen es seen g0
      have hperm : js.Perm (List.range l.length) := (List.perm_ext_iff_of_nodup hnj List.nodup_range).2 fun j => ⟨fun hj => List.mem_range.2 (hlj j hj), fun hj => by
        have hjl : j < es.toList.length := by rw [he.1]; exact List.mem_range.1 hj
        exact (hin j _ (List.getElem?_eq_getElem hjl)).1 (hall _ (List.getElem_mem hjl))⟩
      have h2 := hperm.map (fun j => l[j]?)
      have h3 : (List.range l.length).map (fun j => l[j]?) = l.map some := by
        apply List.ext_getElem?
        intro i
        by_cases hi : i < l.length
        · simp [hi]
        · simp [hi]
      rw [h3, ← hdone] at h2
      have h4 := h2.filterMap id
      simp only [List.filterMap_map, Function.comp_def, id, List.filterMap_some] at h4
      exact h4.trans hp
    · obtain ⟨hem, hes⟩ := mem_left hel
      obtain ⟨j, hj⟩ := List.getElem?_of_mem hem
      obtain ⟨p, hpl, hrel⟩ := he.at_ hj
      have hjn : j ∉ js := fun h => by rw [(hin j e hj).2 h] at hes; cases hes
      obtain ⟨r1, r2, cs, r3, r4⟩ := hrel
      have hpd : ∀ q ∈ done, q.1 ≠ p.1 := fun q h => by
        have : some q ∈ done.map some := List.mem_map.2 ⟨_, h, rfl⟩
        rw [hdone] at this
        obtain ⟨j', hj', e2⟩ := List.mem_map.1 this
        have hjj : j' ≠ j := fun e => hjn (e ▸ hj')
        have hnd' := hnd
        rw [ND, List.pairwise_iff_getElem] at hnd'
        have u1 := List.getElem?_eq_some_iff.1 hpl
        have u2 := List.getElem?_eq_some_iff.1 e2
        rcases Nat.lt_or_gt_of_ne hjj with hlt | hlt
        · have := hnd' j' j u2.1 u1.1 hlt
          rw [u2.2, u1.2] at this; exact this
        · have := hnd' j j' u1.1 u2.1 hlt
          rw [u2.2, u1.2] at this; exact Ne.symm this
      refine ⟨.tuple #[.bool true, K.enc p.1, wrapV ag cs], setBlock w1 it (.mapIter (some b) clock (seen.push e.born) clock), mrange K R ag b it m (done ++ [p]) :: L0, by simp [execOp, hh.1.ev hx, grun, r1, r4], ?_, h1 p cs (hp.mem_iff.1 (List.mem_of_getElem? hpl)) hpd (by
        have e1 : done.length = js.length := by have := congrArg List.length hdone; simpa using this
        have := nodup_len (l := j :: js) (n := l.length) (List.nodup_cons.2 ⟨hjn, hnj⟩) (fun x hx => by rcases List.mem_cons.1 hx with rfl | hx; exact (List.getElem?_eq_some_iff.1 hpl).1; exact hlj x hx)
        rw [e1, ← hp.length_eq]; simp only [List.length_cons] at this; omega)⟩
      have hs1 : Sat W w (own it (.mapIter (some b) clock seen clock) :: own b (.map es clock) :: entsP K R ag es.toList l :: L0) := by
        refine ⟨⟨M, q, hd', hM, hq, Mem.one it (.mapIter (some b) clock seen clock), (Mem.one b (.map es clock)).join a2, ?_, Mem.one_le (l1 _ _ hit), Mem.join_le (Mem.one_le (l1 _ _ hb)) l2, Mem.one_self _ _, Mem.one b (.map es clock), a2, ?_, Mem.le_join_left _ _, Mem.le_join_right ?_, Mem.one_self _ _, Mem.emp, a2, Mem.emp_disj _, Mem.emp_le _, Mem.le_refl _, he, hsep⟩, hh.2.os, hh.2.tape, hh.2.output, hh.2.size⟩
        · intro i
          by_cases hi : i = it
          · right
            subst hi
            have : a2 i = none := by
              rcases ad i with h | h
              · rw [hit] at h; cases h
              · exact h
            simp [Mem.join, Mem.one, hne, this]
          · left; simp [Mem.one, hi]
        all_goals
          intro i
          by_cases hi : i = b
          · right
            subst hi
            rcases ad i with h | h
            · rw [hb] at h; cases h
            · exact h
          · left; simp [Mem.one, hi]
      have hs2 : Sat W w1 (own it (.mapIter (some b) clock seen clock) :: own b (.map es clock) :: entsP K R ag es.toList l :: L0) := by
        rcases hal with rfl | rfl
        · exact hs1
        · exact hs1.drew
      refine (sat_setBlock (y := .mapIter (some b) clock (seen.push e.born) clock) hs2).gives fun N k ⟨c1, c2, cd, m1, m2, hi1, c3, c4, cd', m3, m4, hb1, c5, c6, cd2, m5, m6, hen, hsp⟩ => ?_
      refine ⟨c1.join c3, c6, Mem.join_disj (Mem.disj_le cd (Mem.le_refl _) (Mem.le_trans m6 m4)) (Mem.disj_le cd' (Mem.le_refl _) m6), Mem.join_le m1 (Mem.le_trans m3 m2), Mem.le_trans m6 (Mem.le_trans m4 m2), ⟨es, clock, l, seen.push e.born, js ++ [j], Mem.le_join_right (Mem.disj_le cd (Mem.le_refl _) m3) _ _ hb1, Mem.le_join_left _ _ _ _ hi1, hne, hst, hp, hen, ?_, ?_, ?_, ?_⟩, hsp⟩
      · rw [List.nodup_append]
        exact ⟨hnj, by simp, fun x hx y hy => by simp at hy; subst hy; exact fun e => hjn (e ▸ hx)⟩
      · intro x hx
        rcases List.mem_append.1 hx with hx | hx
        · exact hlj x hx
        · simp at hx; subst hx; exact (List.getElem?_eq_some_iff.1 hpl).1
      · rw [Array.toList_push, List.map_append, List.map_append, hseen, List.map_singleton, List.map_singleton, hj]; rfl
      · rw [List.map_append, List.map_append, hdone]
        simp [hpl]
/-- What the step handed out, read again. -/
theorem TL_entry {x : Operand} {it : Nat} {done : List (κ × α)} {p : κ × α} [hf : FindG L it b κ α K R ag m (done ++ [p]) L0] (hd : Nat.blt d n = true) (hx : ev E x = some (.pointer (some ⟨it, 0, none⟩)))
    (h : ∀ cs, K.ok p.1 → TL r n P ops rest ⟨D, (d, .tuple #[K.enc p.1, wrapV ag cs]) :: E, is R p.2 cs :: mrange K R ag b it m (done ++ [p]) :: L0⟩ KK) :
    TL r n P ops (⟨some d, .entry x, ty, pos, af, none⟩ :: rest) ⟨D, E, L⟩ KK :=
  TL_val rfl hd rfl (fun _ e => by cases e) fun W a w hh => by
    have hs := hh.2.gives hf.g
    obtain ⟨M, q, hd', hM, hq, a1, a2, ad, l1, l2, hm, hsep⟩ := hs.ex
    have hm' := hm
    obtain ⟨es, clock, l, seen, js, hb, hit, hne, hst, hp, he, hnj, hlj, hseen, hdone⟩ := hm'
    have hbw : w.heap[b]? = some (.map es clock) := hq _ _ (l1 _ _ hb)
    have hiw : w.heap[it]? = some (.mapIter (some b) clock seen clock) := hq _ _ (l1 _ _ hit)
    have hst' := (stamped_iff es clock).1 hst
    rcases List.eq_nil_or_concat js with rfl | ⟨js', j, rfl⟩
    · simp at hdone
    · have hlen : done.length = js'.length := by have := congrArg List.length hdone; simp at this; exact this
      rw [List.concat_eq_append] at hseen hdone hlj
      have hpl : l[j]? = some p := by
        have h1 := congrArg List.getLast? hdone
        simpa using h1.symm
      obtain ⟨e, hje⟩ : ∃ e, es.toList[j]? = some e := ⟨_, List.getElem?_eq_getElem (by rw [he.1]; exact hlj j (by simp))⟩
      have hback : ∃ s0 : Array Nat, seen = s0.push e.born := by
        have h1 := congrArg List.getLast? hseen
        simp only [List.map_append, List.map_cons, List.map_nil, List.getLast?_append, List.getLast?_singleton, Option.some_or, hje, Option.map_some] at h1
        rcases List.eq_nil_or_concat seen.toList with h | ⟨t, y, h⟩
        · rw [h] at h1; simp at h1
        · rw [h] at h1
          simp at h1
          exact ⟨t.toArray, by rw [← Array.toArray_toList (xs := seen), h, ← h1]; simp⟩
      obtain ⟨s0, rfl⟩ := hback
      have hrun := run_entry_at (P := P) w it b clock s0 es clock e hiw hbw (List.mem_of_getElem? hje) hst'.2.1
      obtain ⟨r1, r2, cs, r3, r4⟩ := he.2 j e p hje hpl
      exact ⟨.tuple #[K.enc p.1, wrapV ag cs], w, is R p.2 cs :: mrange K R ag b it m (done ++ [p]) :: L0, by simp [execOp, hh.1.ev hx, hrun, r1, r4],
        ⟨⟨M, q, hd', hM, hq, Mem.emp, q, Mem.emp_disj _, Mem.emp_le _, Mem.le_refl _, r3, a1, a2, ad, l1, l2, hm, hsep⟩, hs.os, hs.tape, hs.output, hs.size⟩, h cs r2⟩
/-- The range is over: the map is as it was. -/
theorem mrange_end {it : Nat} {done : List (κ × α)} : Gives (mrange K R ag b it m done :: L) (omap K R ag b m :: L) := fun M k ⟨h1, h2, hd, l1, l2, ⟨es, clock, l, seen, js, hb, hit, hne, hst, hp, he, _⟩, hs⟩ => ⟨h1, h2, hd, l1, l2, ⟨es, clock, l, hb, hst, hp, he⟩, hs⟩
end
end Go.SL
set_option linter.unusedVariables false
set_option linter.unusedSimpArgs false
set_option linter.unusedSectionVars false
namespace Go.SL
open Go
/-- Assertions with a key: the one of key k is p; R: all else. -/
class FindK (L : List HP) (k : Nat) (p : outParam HP) (R : outParam (List HP)) : Prop where
  g : Gives L (p :: R)
instance findK_tail {q : HP} {L R : List HP} {k : Nat} {p : HP} [h : FindK L k p R] : FindK (q :: L) k p (q :: R) := ⟨(Gives.cons q h.g).trans (Gives.swap q _ R)⟩
theorem sep_append {M : Mem} {B : List HP} : ∀ {A : List HP} {h h1 h2 : Mem}, Sep A M h1 → Sep B M h2 → h1.disj h2 → h1.le h → h2.le h → Sep (A ++ B) M h
  | [], h, h1, h2, _, hb, _, _, l2 => Sep.mono (Mem.le_refl _) l2 hb
  | p :: A, h, h1, h2, ⟨a1, a2, ad, m1, m2, hp, hs⟩, hb, hd, l1, l2 => by
    refine ⟨a1, a2.join h2, ?_, Mem.le_trans m1 l1, Mem.join_le (Mem.le_trans m2 l1) l2, hp, sep_append (h := a2.join h2) hs hb (Mem.disj_le hd m2 (Mem.le_refl _)) (Mem.le_join_left _ _) (Mem.le_join_right (Mem.disj_le hd m2 (Mem.le_refl _)))⟩
    exact Mem.disj_symm (Mem.join_disj (Mem.disj_symm ad) (Mem.disj_symm (Mem.disj_le hd m1 (Mem.le_refl _))))
theorem sep_split {M : Mem} {B : List HP} : ∀ {A : List HP} {h : Mem}, Sep (A ++ B) M h → ∃ h1 h2, h1.disj h2 ∧ h1.le h ∧ h2.le h ∧ Sep A M h1 ∧ Sep B M h2
  | [], h, hs => ⟨Mem.emp, h, Mem.emp_disj _, Mem.emp_le _, Mem.le_refl _, trivial, hs⟩
  | p :: A, h, ⟨a1, a2, ad, m1, m2, hp, hs⟩ => by
    obtain ⟨b1, b2, bd, n1, n2, hA, hB⟩ := sep_split hs
    refine ⟨a1.join b1, b2, ?_, Mem.join_le m1 (Mem.le_trans n1 m2), Mem.le_trans n2 m2, ⟨a1, b1, Mem.disj_le ad (Mem.le_refl _) n1, Mem.le_join_left _ _, Mem.le_join_right (Mem.disj_le ad (Mem.le_refl _) n1), hp, hA⟩, hB⟩
    exact Mem.join_disj (Mem.disj_le ad (Mem.le_refl _) n2) bd
def exH {β : Type} (f : β → List HP) : HP := ⟨fun M h => ∃ x, Sep (f x) M h, fun hM hh ⟨x, h⟩ => ⟨x, Sep.mono hM hh h⟩⟩
theorem exH_close {β : Type} {f : β → List HP} {L : List HP} (x : β) : Gives (f x ++ L) (exH f :: L) := fun M h hs => by
  obtain ⟨h1, h2, hd, l1, l2, hA, hB⟩ := sep_split hs
  exact ⟨h1, h2, hd, l1, l2, ⟨x, hA⟩, hB⟩
theorem exH_open {β : Type} {f : β → List HP} {L : List HP} {W w : World} (h : Sat W w (exH f :: L)) : ∃ x, Sat W w (f x ++ L) := by
  obtain ⟨M, k, hd, hM, hk, h1, h2, hd', l1, l2, ⟨x, hx⟩, hs⟩ := h.ex
  exact ⟨x, ⟨M, k, hd, hM, hk, sep_append hx hs hd' l1 l2⟩, h.os, h.tape, h.output, h.size⟩
section
variable {r : Option Nat} {n : Nat} {P : Program} {ops : Array Oper} {rest : List Oper} {K : St → Prop} {Q : Exit → St → Prop} {D : List Deferred} {E : Env} {L L' : List HP} {d : Nat} {ty : TypeId} {pos : String} {af : Array Edge}
theorem TL_pullk (k : Nat) {p : HP} {R : List HP} [hf : FindK L k p R] (h : TL r n P ops rest ⟨D, E, p :: R⟩ K) : TL r n P ops rest ⟨D, E, L⟩ K := TL_gives hf.g h
theorem T_pullk (k : Nat) {p : HP} {R : List HP} {c : Code} [hf : FindK L k p R] (h : T r n P c ⟨D, E, p :: R⟩ Q) : T r n P c ⟨D, E, L⟩ Q := T_gives hf.g h
theorem TL_exH {β : Type} {f : β → List HP} (h : ∀ x, TL r n P ops rest ⟨D, E, f x ++ L⟩ K) : TL r n P ops rest ⟨D, E, exH f :: L⟩ K := fun W a w hh => by
  obtain ⟨x, hx⟩ := exH_open hh.2
  exact h x W a w ⟨hh.1, hx⟩
theorem T_exH {β : Type} {f : β → List HP} {c : Code} (h : ∀ x, T r n P c ⟨D, E, f x ++ L⟩ Q) : T r n P c ⟨D, E, exH f :: L⟩ Q := fun W a w hh => by
  obtain ⟨x, hx⟩ := exH_open hh.2
  exact h x W a w ⟨hh.1, hx⟩
end
end Go.SL
set_option linter.unusedVariables false
set_option linter.unusedSimpArgs false
set_option linter.unusedSectionVars false
namespace Go.SL
open Go Go.Lib
/-- The elements' words are of M, their cells lie in N. -/
def sliceAt2 {α : Type} (M N : Mem) (R : Rep α) (A : Option Addr) (c : Nat) (xs : List α) : Prop :=
  xs.length ≤ c ∧ xs.length ≤ maxEl ∧ (xs = [] ∨ ∃ b o, A = some ⟨b, o, none⟩ ∧ ∃ cs t fr, N b = some (.cells cs t fr) ∧ ∀ i x, xs[i]? = some x → ∃ l, R.rep M x l ∧ ∀ j v, l[j]? = some v → cs[o + i * R.sz + j]? = some v)
def SlN {α : Type} (L : List HP) (R : Rep α) (A : Option Addr) (c : Nat) (xs : List α) : Prop := ∀ M h N, M.disj h → Sep L M h → M.le N → h.le N → sliceAt2 M N R A c xs
section
variable {α : Type} {R : Rep α} {A : Option Addr} {c : Nat} {xs : List α} {L L' : List HP}
theorem SlK.n (h : SlK L R A c xs) : SlN L R A c xs := fun M k N hd hs hM hk => by
  obtain ⟨a, b, e⟩ := h M k hs
  refine ⟨a, b, e.imp id ?_⟩
  rintro ⟨b, o, rfl, cs, t, fr, hb, hall⟩
  exact ⟨b, o, rfl, cs, t, fr, hM _ _ hb, hall⟩
theorem SlN.tail {p : HP} (h : SlN L R A c xs) : SlN (p :: L) R A c xs := fun M k N hd ⟨h1, h2, hd', l1, l2, hp, hs⟩ hM hk => h M h2 N (Mem.disj_le hd (Mem.le_refl _) l2) hs hM (Mem.le_trans l2 hk)
theorem SlN.of_gives (g : Gives L L') (h : SlN L' R A c xs) : SlN L R A c xs := fun M k N hd hs hM hk => h M k N hd (g M k hs) hM hk
theorem osl_n {t : TypeId} : SlN (osl R t A c xs :: L) R A c xs := fun M k N hd ⟨h1, h2, hd', l1, l2, hp, hs⟩ hM hk => by
  refine ⟨?_, hp.1, ?_⟩
  · rcases hp.2 with ⟨rfl, rfl⟩ | ⟨g, cur, _, _, _, hl, _⟩
    · simp
    · exact hl
  · rcases hp.2 with ⟨_, e⟩ | ⟨g, cur, e, hg, hsz, hl, hc, hx⟩
    · exact .inl e
    · exact .inr ⟨g, 0, e, cur, t, (0, 0), hk _ _ (l1 _ _ hg), fun i x hi => let ⟨l, a, b⟩ := hx i x hi; ⟨l, a, fun j v hj => by rw [Nat.zero_add]; exact b j v hj⟩⟩
theorem SlN.nil : SlN L R A c ([] : List α) := fun M k N _ _ _ _ => ⟨Nat.zero_le _, Nat.zero_le _, .inl rfl⟩
theorem SlN.len (h : SlN L R A c xs) {W w : World} (hs : Sat W w L) : xs.length ≤ c ∧ xs.length ≤ maxEl := by
  obtain ⟨M, k, hd, hM, hk, hsep⟩ := hs.ex
  have := h M k (heapOf w) hd hsep hM hk
  exact ⟨this.1, this.2.1⟩
end
class FindN (L : List HP) (A : Option Addr) (c : Nat) (α : outParam Type) (R : outParam (Rep α)) (xs : outParam (List α)) : Prop where
  k : SlN L R A c xs
instance findN_tail {p : HP} {L : List HP} {A : Option Addr} {c : Nat} {α : Type} {R : Rep α} {xs : List α} [h : FindN L A c α R xs] : FindN (p :: L) A c α R xs := ⟨h.k.tail⟩
instance findN_sl {L : List HP} {A : Option Addr} {c : Nat} {α : Type} {R : Rep α} {xs : List α} : FindN (sl R A c xs :: L) A c α R xs := ⟨SlK.n (Knows.head' fun _ _ h => h)⟩
instance findN_osl {L : List HP} {A : Option Addr} {c : Nat} {α : Type} {R : Rep α} {t : TypeId} {xs : List α} : FindN (osl R t A c xs :: L) A c α R xs := ⟨osl_n⟩
theorem sln {L : List HP} {A : Option Addr} {c : Nat} {α : Type} {R : Rep α} {xs : List α} [h : FindN L A c α R xs] : SlN L R A c xs := h.k
section
variable {r : Option Nat} {n : Nat} {P : Program} {ops : Array Oper} {rest : List Oper} {K : St → Prop} {Q : Exit → St → Prop} {D : List Deferred} {E : Env} {L L' : List HP} {d : Nat} {ty : TypeId} {pos : String} {af : Array Edge}
variable {α : Type} {R : Rep α} {A : Option Addr} {c : Nat} {xs ys : List α}
theorem SlN.lens {c' : Code} (hk : SlN L R A c xs) (h : xs.length ≤ c ∧ xs.length ≤ maxEl → T r n P c' ⟨D, E, L⟩ Q) : T r n P c' ⟨D, E, L⟩ Q := fun W a w hh => h (hk.len hh.2) W a w hh
theorem SlN.lensL (hk : SlN L R A c xs) (h : xs.length ≤ c ∧ xs.length ≤ maxEl → TL r n P ops rest ⟨D, E, L⟩ K) : TL r n P ops rest ⟨D, E, L⟩ K := fun W a w hh => h (hk.len hh.2) W a w hh
theorem SlN.none_nil {c' : Code} (hk : SlN L R none c xs) (h : xs = [] → T r n P c' ⟨D, E, L⟩ Q) : T r n P c' ⟨D, E, L⟩ Q := fun W a w hh => by
  obtain ⟨M, k, hd, hM, hk', hsep⟩ := hh.2.ex
  rcases (hk M k (heapOf w) hd hsep hM hk').2.2 with e | ⟨b, o, e, _⟩
  · exact h e W a w hh
  · cases e
theorem cells_of_slice2 {M N : Mem} {w : World} (hN : N.le (heapOf w)) (h : sliceAt2 M N R A c xs) : ∃ cs, CellsOf M R xs cs ∧ (xs.length = 0 ∨ ∃ a, A = some a ∧ ∀ j v, cs[j]? = some v → w.cell? (a.add j) = some v) := by
  rcases h.2.2 with rfl | ⟨b, o, rfl, cur, t, fr, hb, hall⟩
  · exact ⟨[], rfl, .inl rfl⟩
  · obtain ⟨cs, h1, h2⟩ := cells_of_array (R := R) (M := M) (cur := cur) (o := o) (xs := xs) (k := 0) (fun i x hi => by
      obtain ⟨l, a, b⟩ := hall i x hi
      exact ⟨l, a, fun j v hj => by rw [Nat.zero_add]; exact b j v hj⟩)
    refine ⟨cs, h1, .inr ⟨_, rfl, fun j v hj => ?_⟩⟩
    rw [Addr.add_plain, cell_of (hN _ _ hb)]
    simpa using h2 j v hj
/-- append to a slice that is ours of one that is read. -/
theorem TL_append_n {x y : Operand} {t u e : TypeId} {z : Value} {bytes c2 : Nat} {A2 : Option Addr} {L0 : List HP} [ht : TyDesc P t (.slice e)] [hu : TyDesc P u (.slice e)] (hd : Nat.blt d n = true) (hx : ev E x = some (.slice A xs.length c)) (hy : ev E y = some (.slice A2 ys.length c2)) [hf : FindO L A c α R e xs L0]
    [he : TyElem P e z R.sz bytes] (hz : z.cells.size = R.sz) (hb : Nat.blt 0 bytes = true) (hsrc : SlN L0 R A2 c2 ys) (hfit : (xs.length + ys.length) * bytes ≤ 140737488355328)
    (h : ∀ A' c', TL r n P ops rest ⟨D, (d, .slice A' (xs ++ ys).length c') :: E, osl R e A' c' (xs ++ ys) :: L0⟩ K) :
    TL r n P ops (⟨some d, .call { callee := .builtin .append, args := #[x, y], argTypes := #[t, u] }, ty, pos, af, none⟩ :: rest) ⟨D, E, L⟩ K :=
  TL_val rfl hd rfl (fun _ e => by cases e) fun W a w hh => by
    have hs := hh.2.gives hf.g
    obtain ⟨M', k', hd1', hM', hk', g1, g2, gd, m1, m2, hp, hsep'⟩ := hs.ex
    obtain ⟨cs, h1, h2⟩ := cells_of_slice2 (Mem.le_refl _) (hsrc M' g2 (heapOf w) (Mem.disj_le hd1' (Mem.le_refl _) m2) hsep' hM' (Mem.le_trans m2 hk'))
    have hsl : Src P u R.sz (.slice A2 ys.length c2) ys.length cs w := src_slice (u := u) (e := e) h2 h1.length h1.one
    have hsat : Sat W w (osl R e A c xs :: pers (fun M => CellsOf M R ys cs) (fun hM h => cellsOf_mono hM h) :: L0) :=
      ⟨⟨M', k', hd1', hM', hk', g1, g2, gd, m1, m2, hp, Mem.emp, g2, Mem.emp_disj _, Mem.emp_le _, Mem.le_refl _, h1, hsep'⟩, hs.os, hs.tape, hs.output, hs.size⟩
    obtain ⟨A', c', w', hr, hs'⟩ := append_own (P := P) (t := t) (u := u) (by simpa using hb) hz hsat hsl (fun N m hm _ => by obtain ⟨_, _, _, _, _, hp, _⟩ := hm; exact hp) hfit ty
    refine ⟨_, w', _, ?_, hs'.gives (Gives.cons _ (Gives.drop _ _)), h A' c'⟩
    simp [execOp, resolve, invoke, builtin, hh.1.ev hx, hh.1.ev hy, hr]
/-! ### Elements, wherever they lie -/
theorem TL_index_n {x i : Operand} {t e : TypeId} {ik : IntKind} {j k : Nat} {u : α} [ht : TyDesc P t (.slice e)] [hz : TySize P e R.sz] (hd : Nat.blt d n = true) (hx : ev E x = some (.slice A k c)) (hi : ev E i = some (.int ik (j : Int))) (hkl : k = xs.length) (hk : SlN L R A c xs) (hu : xs[j]? = some u)
    (h : ∀ b o, A = some ⟨b, o, none⟩ → SlN L R (some ⟨b, o, none⟩) c xs → TL r n P ops rest ⟨D, (d, .pointer (some ⟨b, o + j * R.sz + 0, none⟩)) :: E, L⟩ K) : TL r n P ops (⟨some d, .indexAddr t x i, ty, pos, af, none⟩ :: rest) ⟨D, E, L⟩ K := fun W a w hh => by
  subst hkl
  obtain ⟨M, q, hd', hM, hq, hsep⟩ := hh.2.ex
  rcases (hk M q (heapOf w) hd' hsep hM hq).2.2 with e | ⟨b, o, e, _⟩
  · rw [e] at hu; simp at hu
  · subst e
    have hlt : j < xs.length := (List.getElem?_eq_some_iff.1 hu).1
    exact TL_y hd rfl (Y_index_at hx hi hlt (b := b) (o := o + j * R.sz) ⟨o, rfl, rfl⟩) (h b o rfl hk) W a w hh
theorem Y_index_n {x i : Operand} {t e : TypeId} {ik : IntKind} {j k b o : Nat} {u : α} [ht : TyDesc P t (.slice e)] [hz : TySize P e R.sz] (hx : ev E x = some (.slice (some ⟨b, o, none⟩) k c)) (hi : ev E i = some (.int ik (j : Int))) (hkl : k = xs.length) (hu : xs[j]? = some u) :
    Yl P E L (.indexAddr t x i) ty (.pointer (some ⟨b, o + j * R.sz + 0, none⟩)) := by
  subst hkl
  have hlt : j < xs.length := (List.getElem?_eq_some_iff.1 hu).1
  exact Y_index_at hx hi hlt (b := b) (o := o + j * R.sz) ⟨o, rfl, rfl⟩
/-- Where a slice lies that is not empty. -/
theorem T_addr_n {c' : Code} {j : Nat} {u : α} (hk : SlN L R A c xs) (hu : xs[j]? = some u) (h : ∀ b o, A = some ⟨b, o, none⟩ → T r n P c' ⟨D, E, L⟩ Q) : T r n P c' ⟨D, E, L⟩ Q := fun W a w hh => by
  obtain ⟨M, q, hd', hM, hq, hsep⟩ := hh.2.ex
  rcases (hk M q (heapOf w) hd' hsep hM hq).2.2 with e | ⟨b, o, e, _⟩
  · rw [e] at hu; simp at hu
  · exact h b o e W a w hh
theorem elem_n {b o j : Nat} {u : α} (hk : SlN L R (some ⟨b, o, none⟩) c xs) (hu : xs[j]? = some u) {W w : World} (hs : Sat W w L) : ∃ l, l.length = R.sz ∧ Sat W w (is R u l :: L) ∧ ∀ q v, l[q]? = some v → w.cell? ⟨b, o + j * R.sz + q, none⟩ = some v := by
  obtain ⟨M, k, hd', hM, hq, hsep⟩ := hs.ex
  rcases (hk M k (heapOf w) hd' hsep hM hq).2.2 with e | ⟨b', o', e, cs, t, fr, hb, hall⟩
  · rw [e] at hu; simp at hu
  · cases e
    obtain ⟨l, hl, hc⟩ := hall j u hu
    refine ⟨l, R.len hl, ⟨⟨M, k, hd', hM, hq, Mem.emp, k, Mem.emp_disj _, Mem.emp_le _, Mem.le_refl _, hl, hsep⟩, hs.os, hs.tape, hs.output, hs.size⟩, fun q v hv => ?_⟩
    rw [cell_of hb]
    exact hc q v hv
theorem run_load_at {t : TypeId} {b o q m : Nat} {l vs : List Value} {w : World} [ht : TyAgg P t true] [hz : TySize P t m] (hc : ∀ q v, l[q]? = some v → w.cell? ⟨b, o + q, none⟩ = some v) (hv : cutN q m l = some vs) : (loadVar t ⟨b, o + q, none⟩).run P w = .ok (.agg vs.toArray) w := by
  obtain ⟨e, hl⟩ := cutN_eq hv
  refine run_loadVar_agg (hk := by rw [e]; simp; omega) (fun i v hi => ?_)
  rw [e, List.getElem?_take] at hi
  split at hi
  · rw [List.getElem?_drop] at hi
    have := hc _ _ hi
    rwa [Nat.add_assoc]
  · cases hi
section ex
variable {β : Type} {sz : Nat} {f : α → β → List Value} {g : α → β → List HP} {ok : α → Prop} {hlen : ∀ x p, (f x p).length = sz} {hone : ∀ x p, oneN (f x p) = true}
theorem sat_ex {u : α} {l : List Value} {W w : World} (h : Sat W w (is (exR sz f g ok hlen hone) u l :: L)) : ∃ p, l = f u p ∧ ok u ∧ Sat W w (g u p ++ L) := by
  obtain ⟨M, k, hd, hM, hk, h3, h4, hd2, l3, l4, ⟨p, e, hs, hok⟩, hL⟩ := h.ex
  exact ⟨p, e, hok, ⟨M, k, hd, hM, hk, sep_app hs (Sep.mono (Mem.le_refl _) l4 hL)⟩, h.os, h.tape, h.output, h.size⟩
/-- Of elements that hold slices: a part of several cells. -/
theorem TL_load_nx {x : Operand} {t : TypeId} {b o j q m : Nat} {u : α} {vs : β → List Value} [ht : TyAgg P t true] [hz : TySize P t m] (hd : Nat.blt d n = true) (hx : ev E x = some (.pointer (some ⟨b, o + j * sz + q, none⟩))) (hk : SlN L (exR sz f g ok hlen hone) (some ⟨b, o, none⟩) c xs) (hu : xs[j]? = some u) (hv : ∀ p, cutN q m (f u p) = some (vs p))
    (h : ∀ p, ok u → TL r n P ops rest ⟨D, (d, .agg (vs p).toArray) :: E, g u p ++ L⟩ K) : TL r n P ops (⟨some d, .load t x, ty, pos, af, none⟩ :: rest) ⟨D, E, L⟩ K :=
  TL_val rfl hd rfl (fun _ e => by cases e) fun W a w hh => by
    obtain ⟨l, hl, hs, hc⟩ := elem_n hk hu hh.2
    obtain ⟨p, rfl, hok, hs2⟩ := sat_ex hs
    have hc : ∀ (q : Nat) (v : Value), (f u p)[q]? = some v → w.cell? ⟨b, o + j * sz + q, none⟩ = some v := hc
    exact ⟨_, w, _, by simp only [execOp, hh.1.ev hx, Instr.loadAt, Instr.sureAddr, Sem.run_bind, Sem.run_pure, Result.andThen_ok, run_load_at hc (hv p)], hs2, h p hok⟩
/-- One cell that tells of no slice: it only reckons. -/
theorem Y_load_nx {x : Operand} {t : TypeId} {b o j q : Nat} {u : α} {v : Value} [ht : TyAgg P t false] (hx : ev E x = some (.pointer (some ⟨b, o + j * sz + q, none⟩))) (hk : SlN L (exR sz f g ok hlen hone) (some ⟨b, o, none⟩) c xs) (hu : xs[j]? = some u) (hv : ∀ p, cellN (f u p) q = some v) : Yl P E L (.load t x) ty v := fun n D W a w dst pos af gd ha hs => by
  obtain ⟨l, hl, hs1, hc⟩ := elem_n hk hu hs
  obtain ⟨p, rfl, hok, hs2⟩ := sat_ex hs1
  have hc : ∀ (q : Nat) (v : Value), (f u p)[q]? = some v → w.cell? ⟨b, o + j * sz + q, none⟩ = some v := hc
  simp only [execOp, ha.ev hx, Instr.loadAt, Instr.sureAddr, Sem.run_bind, Sem.run_pure, Result.andThen_ok, run_loadVar_one (hc q _ (cellN_eq (hv p)))]
theorem Y_load_nxa {x : Operand} {t : TypeId} {b o j q m : Nat} {u : α} {vs : List Value} [ht : TyAgg P t true] [hz : TySize P t m] (hx : ev E x = some (.pointer (some ⟨b, o + j * sz + q, none⟩))) (hk : SlN L (exR sz f g ok hlen hone) (some ⟨b, o, none⟩) c xs) (hu : xs[j]? = some u) (hv : ∀ p, cutN q m (f u p) = some vs) : Yl P E L (.load t x) ty (.agg vs.toArray) := fun n D W a w dst pos af gd ha hs => by
  obtain ⟨l, hl, hs1, hc⟩ := elem_n hk hu hs
  obtain ⟨p, rfl, hok, hs2⟩ := sat_ex hs1
  have hc : ∀ (q : Nat) (v : Value), (f u p)[q]? = some v → w.cell? ⟨b, o + j * sz + q, none⟩ = some v := hc
  simp only [execOp, ha.ev hx, Instr.loadAt, Instr.sureAddr, Sem.run_bind, Sem.run_pure, Result.andThen_ok, run_load_at hc (hv p)]
end ex
/-- Of elements that their cells tell: one cell; several. -/
theorem Y_load_n {x : Operand} {t : TypeId} {b o j q : Nat} {u : α} {v : Value} {f : α → List Value} [hf : RepF R f] [ht : TyAgg P t false] (hx : ev E x = some (.pointer (some ⟨b, o + j * R.sz + q, none⟩))) (hk : SlN L R (some ⟨b, o, none⟩) c xs) (hu : xs[j]? = some u) (hv : cellN (f u) q = some v) : Yl P E L (.load t x) ty v := fun n D W a w dst pos af gd ha hs => by
  obtain ⟨l, hl, hs1, hc⟩ := elem_n hk hu hs
  obtain ⟨M, k, _, _, _, h1, h2, _, _, _, hi, _⟩ := hs1.ex
  rw [hf.e _ _ _ hi] at hc
  simp only [execOp, ha.ev hx, Instr.loadAt, Instr.sureAddr, Sem.run_bind, Sem.run_pure, Result.andThen_ok, run_loadVar_one (hc q _ (cellN_eq hv))]
theorem SlN.take (h : SlN L R A c xs) (j : Nat) : SlN L R A c (xs.take j) := fun M k N hd hs hM hk => by
  obtain ⟨a, b, e⟩ := h M k N hd hs hM hk
  refine ⟨by rw [List.length_take]; omega, by rw [List.length_take]; omega, ?_⟩
  rcases e with e | ⟨b, o, e, cs, t, fr, hb, hall⟩
  · left; simp [e]
  · right
    refine ⟨b, o, e, cs, t, fr, hb, fun i x hi => hall i x ?_⟩
    rw [List.getElem?_take] at hi
    split at hi
    · exact hi
    · cases hi
theorem SlN.cut (h : SlN L R A c xs) (i j cap : Nat) (hij : i ≤ j) (hj : j ≤ xs.length) (hcap : j ≤ cap) : SlN L R (cutA A i cap R.sz) (cap - i) ((xs.take j).drop i) := fun M k N hd hs hM hk => by
  obtain ⟨a, b, e⟩ := h M k N hd hs hM hk
  have hlen : ((xs.take j).drop i).length = j - i := by simp; omega
  refine ⟨by rw [hlen]; omega, by rw [hlen]; omega, ?_⟩
  by_cases hij' : i = j
  · left; apply List.eq_nil_of_length_eq_zero; omega
  · rcases e with e | ⟨b, o, rfl, cs, t, fr, hb, hall⟩
    · subst e; left; simp
    · right
      refine ⟨b, o + i * R.sz, ?_, cs, t, fr, hb, fun k x hk => ?_⟩
      · unfold cutA; rw [if_neg (by omega)]; simp [Addr.add_plain]
      · rw [List.getElem?_drop, List.getElem?_take] at hk
        split at hk
        · obtain ⟨l, hl, hc⟩ := hall _ _ hk
          refine ⟨l, hl, fun q v hq => ?_⟩
          have := hc q v hq
          rwa [Nat.add_mul, ← Nat.add_assoc] at this
        · cases hk
theorem SlN.drop (h : SlN L R A c xs) {i : Nat} (hi : i ≤ xs.length) {W w : World} (hs : Sat W w L) : SlN L R (cutA A i c R.sz) (c - i) (xs.drop i) := by
  have h1 := h.len hs
  have := h.cut i xs.length c hi (Nat.le_refl _) h1.1
  rwa [List.take_length] at this
end
end Go.SL
set_option linter.unusedVariables false
set_option linter.unusedSectionVars false
namespace Go.SL
open Go
section
variable {P : Program} {f : FuncId} {args : Array Value} {L : List HP}
theorem cells_one' {α : Type} {R : Rep α} {x : α} {l : List Value} {L : List HP} (h : Knows L (fun M => R.rep M x l)) : Knows L (fun M => CellsOf M R [x] l) := h.mono fun M h => ⟨l, [], h, rfl, by simp⟩
end
/-- Data whose cells tell where the rest lies: under its own name. -/
class IsEx {α : Type} (R : Rep α) (β : outParam Type) (sz : outParam Nat) (f : outParam (α → β → List Value)) (g : outParam (α → β → List HP)) (ok : outParam (α → Prop)) : Prop where
  e : ∃ hlen hone, R = exR sz f g ok hlen hone
section
variable {r : Option Nat} {n : Nat} {P : Program} {ops : Array Oper} {rest : List Oper} {KK : St → Prop} {Q : Exit → St → Prop} {D : List Deferred} {E : Env} {L L0 : List HP} {d : Nat} {ty : TypeId} {pos : String} {af : Array Edge}
variable {α β κ : Type} [DecidableEq κ] {sz : Nat} {f : α → β → List Value} {g : α → β → List HP} {ok : α → Prop} {hlen : ∀ x p, (f x p).length = sz} {hone : ∀ x p, oneN (f x p) = true} {K : KeyT κ} {b : Nat} {m : List (κ × α)}
theorem Y_max {x y : Operand} {t t' : TypeId} {k : IntKind} {a b : Int} (hx : ev E x = some (.int k a)) (hy : ev E y = some (.int k b)) : Yl P E L (.call { callee := .builtin .max, args := #[x, y], argTypes := #[t, t'] }) ty (.int k (max a b)) := fun n D W ac w dst pos af g ha hs => by
  have e : (if a < b then b else a) = max a b := by omega
  simp [execOp, resolve, invoke, builtin, ha.ev hx, ha.ev hy, Builtin.max_, Builtin.max2, e]
theorem TL_isx {u : α} {l : List Value} (h : ∀ p, l = f u p → ok u → TL r n P ops rest ⟨D, E, g u p ++ L⟩ KK) : TL r n P ops rest ⟨D, E, is (exR sz f g ok hlen hone) u l :: L⟩ KK := fun W a w hh => by
  obtain ⟨p, e, o, hs⟩ := sat_ex hh.2
  exact h p e o W a w ⟨hh.1, hs⟩
theorem TL_lookup_x {R : Rep α} [hR : IsEx R β sz f g ok] {x y : Operand} {t kt et : TypeId} {z : Value} {k : κ} [ht : TyDesc P t (.map kt et)] [hf : FindM L b κ α K R true m L0] [hk : KeyOk P kt K] [hz : TyZero P et z] (hd : Nat.blt d n = true) (hx : ev E x = some (.map (some b))) (hy : ev E y = some (K.enc k)) (hok : K.ok k)
    (h0 : getM m k = none → TL r n P ops rest ⟨D, (d, z) :: E, L⟩ KK) (h1 : ∀ u p, getM m k = some u → ok u → TL r n P ops rest ⟨D, (d, .agg (f u p).toArray) :: E, g u p ++ (omap K R true b m :: L0)⟩ KK) :
    TL r n P ops (⟨some d, .lookup t x y false, ty, pos, af, none⟩ :: rest) ⟨D, E, L⟩ KK := by
  obtain ⟨hlen, hone, rfl⟩ := hR.e
  exact TL_lookup hd hx hy hok h0 fun u cs hu => TL_isx fun p e ho => by subst e; exact h1 u p hu ho
theorem TL_lookup_okx {R : Rep α} [hR : IsEx R β sz f g ok] {x y : Operand} {t kt et : TypeId} {z : Value} {k : κ} [ht : TyDesc P t (.map kt et)] [hf : FindM L b κ α K R true m L0] [hk : KeyOk P kt K] [hz : TyZero P et z] (hd : Nat.blt d n = true) (hx : ev E x = some (.map (some b))) (hy : ev E y = some (K.enc k)) (hok : K.ok k)
    (h0 : getM m k = none → TL r n P ops rest ⟨D, (d, .tuple #[z, .bool false]) :: E, L⟩ KK) (h1 : ∀ u p, getM m k = some u → ok u → TL r n P ops rest ⟨D, (d, .tuple #[.agg (f u p).toArray, .bool true]) :: E, g u p ++ (omap K R true b m :: L0)⟩ KK) :
    TL r n P ops (⟨some d, .lookup t x y true, ty, pos, af, none⟩ :: rest) ⟨D, E, L⟩ KK := by
  obtain ⟨hlen, hone, rfl⟩ := hR.e
  exact TL_lookup_ok hd hx hy hok h0 fun u cs hu => TL_isx fun p e ho => by subst e; exact h1 u p hu ho
theorem set_same {l : List α} {i : Nat} {x : α} (h : l[i]? = some x) : l.set i x = l := by
  obtain ⟨h1, h2⟩ := List.getElem?_eq_some_iff.1 h
  rw [← h2, List.set_getElem_self]
theorem T_name {c : Code} (g : Nat) {v v' : Value} (hl : look E g = some v) (e : v = v') (h : T r n P c ⟨D, (g, v') :: E, L⟩ Q) : T r n P c ⟨D, E, L⟩ Q := by
  subst e
  exact fun W a w hh => h W a w ⟨hh.1.less (look_same hl), hh.2⟩
/-- Ways that come together, seen from inside. -/
theorem T_joinKT {σ : Type} {x c : Code} {kv : Env} (ks : List Nat) (I : σ → Prop) (U : σ → Env → Env) (M : σ → List HP) (hk : keepO ks E = some kv)
    (h1 : T r n P x ⟨D, E, L⟩ (thenS (fun s' => ∃ y, I y ∧ ∀ W a w, Holds n W s' a w → Holds n W ⟨D, U y kv, M y⟩ a w) Q)) (h2 : ∀ y, I y → T r n P c ⟨D, U y kv, M y⟩ Q) : T r n P x ⟨D, E, L⟩ (thenS (fun s' => T r n P c s' Q) Q) :=
  h1.mono fun e s q => by
    cases e with
    | normal =>
      obtain ⟨y, hy, hh⟩ := q
      exact fun W a w h => h2 y hy W a w (hh W a w h)
    | _ => exact q
end
end Go.SL
set_option linter.unusedVariables false
set_option linter.unusedSimpArgs false
namespace Go.SL
open Go
open Go.MapKept Go.WideShapes
open Go.ChangeMaps (setBlock)
section lists
variable {α β : Type}
end lists
section
variable {κ α : Type} {K : KeyT κ} {R : Rep α} {ag : Bool}
abbrev notSeen (seen : Array Nat) (x : MapEntry × (κ × α)) : Bool := !seen.contains x.1.born
def leftL (es : List MapEntry) (l : List (κ × α)) (seen : Array Nat) : List (κ × α) := ((es.zip l).filter (notSeen seen)).map (·.2)
structure MrD (K : KeyT κ) (R : Rep α) (es : Array MapEntry) (clock since : Nat) (l : List (κ × α)) (seen : Array Nat) (m todo : List (κ × α)) (cur : Option (κ × α)) : Prop where
  st : Stamped es clock
  old : ∀ x ∈ es.toList, x.born < since
  sc : since ≤ clock
  lp : l.Perm m
  len : es.toList.length = l.length
  left : todo.Perm (leftL es.toList l seen)
  cur : ∀ p, cur = some p → ∃ (e : MapEntry) (s0 : Array Nat) (j : Nat), seen = s0.push e.born ∧ es.toList[j]? = some e ∧ l[j]? = some p
abbrev mrDF (K : KeyT κ) (R : Rep α) (ag : Bool) (b it : Nat) (m todo : List (κ × α)) (cur : Option (κ × α)) (x : Array MapEntry × Nat × Nat × List (κ × α) × Array Nat) : List HP :=
  [own it (.mapIter (some b) x.2.2.1 x.2.2.2.2 x.2.1), own b (.map x.1 x.2.1), entsP K R ag x.1.toList x.2.2.2.1, pure (MrD K R x.1 x.2.1 x.2.2.1 x.2.2.2.1 x.2.2.2.2 m todo cur)]
/-- The map b (now m) and an iterator over it: of m these are to come. -/
def mrD (K : KeyT κ) (R : Rep α) (ag : Bool) (b it : Nat) (m todo : List (κ × α)) (cur : Option (κ × α)) : HP := exH (mrDF K R ag b it m todo cur)
class FindD (L : List HP) (it : Nat) (b : outParam Nat) (κ : outParam Type) (α : outParam Type) (K : outParam (KeyT κ)) (R : outParam (Rep α)) (ag : outParam Bool) (m todo : outParam (List (κ × α))) (cur : outParam (Option (κ × α))) (L' : outParam (List HP)) : Prop where
  g : Gives L (mrD K R ag b it m todo cur :: L')
variable {L L0 : List HP} {b it : Nat} {m todo : List (κ × α)} {cur : Option (κ × α)}
instance findD_tail {p : HP} {L L' : List HP} {b it : Nat} {κ α : Type} {K : KeyT κ} {R : Rep α} {ag : Bool} {m todo : List (κ × α)} {cur : Option (κ × α)} [h : FindD L it b κ α K R ag m todo cur L'] : FindD (p :: L) it b κ α K R ag m todo cur (p :: L') := ⟨(Gives.cons p h.g).trans (Gives.swap p _ _)⟩
instance findD_head {L : List HP} {b it : Nat} {κ α : Type} {K : KeyT κ} {R : Rep α} {ag : Bool} {m todo : List (κ × α)} {cur : Option (κ × α)} : FindD (mrD K R ag b it m todo cur :: L) it b κ α K R ag m todo cur L := ⟨Gives.refl _⟩
theorem MrD.some_none {es : Array MapEntry} {clock since : Nat} {l : List (κ × α)} {seen : Array Nat} (h : MrD K R es clock since l seen m todo cur) : MrD K R es clock since l seen m todo none := ⟨h.st, h.old, h.sc, h.lp, h.len, h.left, fun p e => by cases e⟩
section
variable {r : Option Nat} {n : Nat} {P : Program} {ops : Array Oper} {rest : List Oper} {KK : St → Prop} {Q : Exit → St → Prop} {D : List Deferred} {E : Env} {L L' L0 : List HP} {d : Nat} {ty : TypeId} {pos : String} {af : Array Edge}
variable [DecidableEq κ]
end
end
end Go.SL
set_option linter.unusedVariables false
set_option linter.unusedSimpArgs false
set_option linter.unusedSectionVars false
namespace Go.SL
open Go
open Go.MapKept Go.WideShapes
open Go.ChangeMaps (setBlock)
section
variable {r : Option Nat} {n : Nat} {P : Program} {ops : Array Oper} {rest : List Oper} {KK : St → Prop} {D : List Deferred} {E : Env} {L L' L0 : List HP} {d : Nat} {ty : TypeId} {pos : String} {af : Array Edge}
variable {κ α : Type} [DecidableEq κ] {K : KeyT κ} {R : Rep α} {ag : Bool} {b : Nat} {m : List (κ × α)}
theorem clear_run {t kt et ty0 : TypeId} [ht : TyDesc P t (.map kt et)] {W w : World} (hs : Sat W w (omap K R ag b m :: L)) :
    ∃ w', (Builtin.clear_ #[t] ty0 #[.map (some b)]).run P w = .ok (.tuple #[]) w' ∧ Sat W w' (omap K R ag b [] :: L) := by
  obtain ⟨es, clock, l, hst, hp, hs1⟩ := omap_open hs
  have hbw : w.heap[b]? = some (.map es clock) := hs1.own_at
  refine ⟨setBlock w b (.map #[] clock), ?_, (sat_setBlock hs1).gives (Gives.trans ?_ (omap_close (l := []) (es := #[]) (clock := clock) (stamped_empty _) (List.Perm.refl _)))⟩
  · simp [Builtin.clear_, ht.run, MapKept.run_getObj_map hbw, MapKept.run_setObj_map _ hbw, Result.andThen, setBlock]
  · intro N q ⟨a1, a2, ad, b1, b2, ho, a3, a4, ad', b3, b4, hen, hsep⟩
    exact ⟨a1, a2, ad, b1, b2, ho, a3, a4, ad', b3, b4, ⟨rfl, fun i e p he => by simp at he⟩, hsep⟩
theorem TL_clear0 {x : Operand} {t kt et : TypeId} [ht : TyDesc P t (.map kt et)] [hf : FindM L b κ α K R ag m L0] (hx : ev E x = some (.map (some b)))
    (h : TL r n P ops rest ⟨D, E, omap K R ag b [] :: L0⟩ KK) : TL r n P ops (⟨none, .call { callee := .builtin .clear, args := #[x], argTypes := #[t] }, ty, pos, af, none⟩ :: rest) ⟨D, E, L⟩ KK :=
  TL_skip rfl rfl (fun _ e => by cases e) fun W a w hh => by
    obtain ⟨w', hrun, hs⟩ := clear_run (P := P) (t := t) (kt := kt) (et := et) (ty0 := ty) (hh.2.gives hf.g)
    exact ⟨_, w', _, by simp [execOp, resolve, invoke, builtin, hh.1.ev hx, hrun]; rfl, .inr ⟨_, rfl⟩, hs, h⟩
end
end Go.SL
set_option linter.unusedVariables false
namespace Go.SL
open Go Go.Proofs
instance : TyAgg Try.prog 1 false := ⟨Try.isAgg1⟩
instance : TySize Try.prog 1 1 := ⟨Try.sizeOf1⟩
instance : TyZero Try.prog 1 Value.nilFunc := ⟨Try.zeroValue1⟩
instance : TyElem Try.prog 1 Value.nilFunc 1 8 := ⟨by kernel_rfl⟩
instance : TyDesc Try.prog 1 (TypeDesc.func #[] #[] false) := ⟨Try.runUnderlying1⟩
instance : TyAgg Try.prog 2 false := ⟨Try.isAgg2⟩
instance : TySize Try.prog 2 1 := ⟨Try.sizeOf2⟩
instance : TyZero Try.prog 2 (Value.int IntKind.i64 0) := ⟨Try.zeroValue2⟩
instance : TyElem Try.prog 2 (Value.int IntKind.i64 0) 1 8 := ⟨by kernel_rfl⟩
instance : TyDesc Try.prog 2 (TypeDesc.int IntKind.i64) := ⟨Try.runUnderlying2⟩
instance : TyAgg Try.prog 3 false := ⟨Try.isAgg3⟩
instance : TySize Try.prog 3 1 := ⟨Try.sizeOf3⟩
instance : TyZero Try.prog 3 (Value.int IntKind.i64 0) := ⟨Try.zeroValue3⟩
instance : TyElem Try.prog 3 (Value.int IntKind.i64 0) 1 8 := ⟨by kernel_rfl⟩
instance : TyDesc Try.prog 3 (TypeDesc.int IntKind.i64) := ⟨Try.runUnderlying3⟩
instance : TyAgg Try.prog 4 false := ⟨Try.isAgg4⟩
instance : TySize Try.prog 4 1 := ⟨Try.sizeOf4⟩
instance : TyZero Try.prog 4 (Value.bool false) := ⟨Try.zeroValue4⟩
instance : TyElem Try.prog 4 (Value.bool false) 1 1 := ⟨by kernel_rfl⟩
instance : TyDesc Try.prog 4 (TypeDesc.bool) := ⟨Try.runUnderlying4⟩
instance : TyAgg Try.prog 5 false := ⟨Try.isAgg5⟩
instance : TySize Try.prog 5 1 := ⟨Try.sizeOf5⟩
instance : TyZero Try.prog 5 (Value.int IntKind.u8 0) := ⟨Try.zeroValue5⟩
instance : TyElem Try.prog 5 (Value.int IntKind.u8 0) 1 1 := ⟨by kernel_rfl⟩
instance : TyDesc Try.prog 5 (TypeDesc.int IntKind.u8) := ⟨Try.runUnderlying5⟩
instance : TyAgg Try.prog 6 false := ⟨Try.isAgg6⟩
instance : TySize Try.prog 6 1 := ⟨Try.sizeOf6⟩
instance : TyZero Try.prog 6 (Value.int IntKind.u8 0) := ⟨Try.zeroValue6⟩
instance : TyElem Try.prog 6 (Value.int IntKind.u8 0) 1 1 := ⟨by kernel_rfl⟩
instance : TyDesc Try.prog 6 (TypeDesc.int IntKind.u8) := ⟨Try.runUnderlying6⟩
instance : TyAgg Try.prog 7 true := ⟨Try.isAgg7⟩
instance : TySize Try.prog 7 4 := ⟨Try.sizeOf7⟩
instance : TyZero Try.prog 7 (Value.agg #[(Value.int IntKind.i64 0), (Value.int IntKind.i64 0), (Value.bool false), (Value.int IntKind.u8 0)]) := ⟨Try.zeroValue7⟩
instance : TyElem Try.prog 7 (Value.agg #[(Value.int IntKind.i64 0), (Value.int IntKind.i64 0), (Value.bool false), (Value.int IntKind.u8 0)]) 4 24 := ⟨by kernel_rfl⟩
instance : TyField Try.prog 7 0 0 2 := ⟨_, _, Try.runUnderlying7, rfl, rfl, rfl, _, by decide, Try.sizeOf2⟩
instance : TyField Try.prog 7 1 1 3 := ⟨_, _, Try.runUnderlying7, rfl, rfl, rfl, _, by decide, Try.sizeOf3⟩
instance : TyField Try.prog 7 2 2 4 := ⟨_, _, Try.runUnderlying7, rfl, rfl, rfl, _, by decide, Try.sizeOf4⟩
instance : TyField Try.prog 7 3 3 6 := ⟨_, _, Try.runUnderlying7, rfl, rfl, rfl, _, by decide, Try.sizeOf6⟩
instance : TyPlaces Try.prog 7 [(0, 1), (1, 1), (2, 1), (3, 1)] := ⟨_, Try.runUnderlying7, fun w => by simp [Try.sizeOf2, Try.sizeOf3, Try.sizeOf4, Try.sizeOf6]⟩
instance : TyAgg Try.prog 8 true := ⟨Try.isAgg8⟩
instance : TySize Try.prog 8 4 := ⟨Try.sizeOf8⟩
instance : TyZero Try.prog 8 (Value.agg #[(Value.int IntKind.i64 0), (Value.int IntKind.i64 0), (Value.bool false), (Value.int IntKind.u8 0)]) := ⟨Try.zeroValue8⟩
instance : TyElem Try.prog 8 (Value.agg #[(Value.int IntKind.i64 0), (Value.int IntKind.i64 0), (Value.bool false), (Value.int IntKind.u8 0)]) 4 24 := ⟨by kernel_rfl⟩
instance : TyField Try.prog 8 0 0 2 := ⟨_, _, Try.runUnderlying8, rfl, rfl, rfl, _, by decide, Try.sizeOf2⟩
instance : TyField Try.prog 8 1 1 3 := ⟨_, _, Try.runUnderlying8, rfl, rfl, rfl, _, by decide, Try.sizeOf3⟩
instance : TyField Try.prog 8 2 2 4 := ⟨_, _, Try.runUnderlying8, rfl, rfl, rfl, _, by decide, Try.sizeOf4⟩
instance : TyField Try.prog 8 3 3 6 := ⟨_, _, Try.runUnderlying8, rfl, rfl, rfl, _, by decide, Try.sizeOf6⟩
instance : TyPlaces Try.prog 8 [(0, 1), (1, 1), (2, 1), (3, 1)] := ⟨_, Try.runUnderlying8, fun w => by simp [Try.sizeOf2, Try.sizeOf3, Try.sizeOf4, Try.sizeOf6]⟩
instance : TyAgg Try.prog 9 false := ⟨Try.isAgg9⟩
instance : TySize Try.prog 9 1 := ⟨Try.sizeOf9⟩
instance : TyZero Try.prog 9 (Value.string { data := #[] }) := ⟨Try.zeroValue9⟩
instance : TyElem Try.prog 9 (Value.string { data := #[] }) 1 16 := ⟨by kernel_rfl⟩
instance : TyDesc Try.prog 9 (TypeDesc.string) := ⟨Try.runUnderlying9⟩
instance : TyAgg Try.prog 22 false := ⟨Try.isAgg22⟩
instance : TySize Try.prog 22 1 := ⟨Try.sizeOf22⟩
instance : TyZero Try.prog 22 (Value.slice none 0 0) := ⟨Try.zeroValue22⟩
instance : TyElem Try.prog 22 (Value.slice none 0 0) 1 24 := ⟨by kernel_rfl⟩
instance : TyDesc Try.prog 22 (TypeDesc.slice 50) := ⟨Try.runUnderlying22⟩
instance : TyAgg Try.prog 23 false := ⟨Try.isAgg23⟩
instance : TySize Try.prog 23 1 := ⟨Try.sizeOf23⟩
instance : TyZero Try.prog 23 (Value.slice none 0 0) := ⟨Try.zeroValue23⟩
instance : TyElem Try.prog 23 (Value.slice none 0 0) 1 24 := ⟨by kernel_rfl⟩
instance : TyDesc Try.prog 23 (TypeDesc.slice 3) := ⟨Try.runUnderlying23⟩
instance : TyAgg Try.prog 25 true := ⟨Try.isAgg25⟩
instance : TySize Try.prog 25 4 := ⟨Try.sizeOf25⟩
instance : TyZero Try.prog 25 (Value.agg #[(Value.string { data := #[] }), (Value.string { data := #[] }), (Value.int IntKind.i64 0), (Value.slice none 0 0)]) := ⟨Try.zeroValue25⟩
instance : TyElem Try.prog 25 (Value.agg #[(Value.string { data := #[] }), (Value.string { data := #[] }), (Value.int IntKind.i64 0), (Value.slice none 0 0)]) 4 64 := ⟨by kernel_rfl⟩
instance : TyField Try.prog 25 0 0 9 := ⟨_, _, Try.runUnderlying25, rfl, rfl, rfl, _, by decide, Try.sizeOf9⟩
instance : TyField Try.prog 25 1 1 9 := ⟨_, _, Try.runUnderlying25, rfl, rfl, rfl, _, by decide, Try.sizeOf9⟩
instance : TyField Try.prog 25 2 2 3 := ⟨_, _, Try.runUnderlying25, rfl, rfl, rfl, _, by decide, Try.sizeOf3⟩
instance : TyField Try.prog 25 3 3 23 := ⟨_, _, Try.runUnderlying25, rfl, rfl, rfl, _, by decide, Try.sizeOf23⟩
instance : TyPlaces Try.prog 25 [(0, 1), (1, 1), (2, 1), (3, 1)] := ⟨_, Try.runUnderlying25, fun w => by simp [Try.sizeOf23, Try.sizeOf3, Try.sizeOf9]⟩
instance : TyAgg Try.prog 27 true := ⟨Try.isAgg27⟩
instance : TySize Try.prog 27 5 := ⟨Try.sizeOf27⟩
instance : TyZero Try.prog 27 (Value.agg #[(Value.bool false), (Value.string { data := #[] }), (Value.string { data := #[] }), (Value.int IntKind.i64 0), (Value.slice none 0 0)]) := ⟨Try.zeroValue27⟩
instance : TyElem Try.prog 27 (Value.agg #[(Value.bool false), (Value.string { data := #[] }), (Value.string { data := #[] }), (Value.int IntKind.i64 0), (Value.slice none 0 0)]) 5 72 := ⟨by kernel_rfl⟩
instance : TyField Try.prog 27 0 0 4 := ⟨_, _, Try.runUnderlying27, rfl, rfl, rfl, _, by decide, Try.sizeOf4⟩
instance : TyField Try.prog 27 1 1 25 := ⟨_, _, Try.runUnderlying27, rfl, rfl, rfl, _, by decide, Try.sizeOf25⟩
instance : TyPlaces Try.prog 27 [(0, 1), (1, 4)] := ⟨_, Try.runUnderlying27, fun w => by simp [Try.sizeOf25, Try.sizeOf4]⟩
instance : TyAgg Try.prog 34 false := ⟨Try.isAgg34⟩
instance : TySize Try.prog 34 1 := ⟨Try.sizeOf34⟩
instance : TyZero Try.prog 34 (Value.slice none 0 0) := ⟨Try.zeroValue34⟩
instance : TyElem Try.prog 34 (Value.slice none 0 0) 1 24 := ⟨by kernel_rfl⟩
instance : TyDesc Try.prog 34 (TypeDesc.slice 44) := ⟨Try.runUnderlying34⟩
instance : TyAgg Try.prog 35 false := ⟨Try.isAgg35⟩
instance : TySize Try.prog 35 1 := ⟨Try.sizeOf35⟩
instance : TyZero Try.prog 35 (Value.pointer none) := ⟨Try.zeroValue35⟩
instance : TyElem Try.prog 35 (Value.pointer none) 1 8 := ⟨by kernel_rfl⟩
instance : TyDesc Try.prog 35 (TypeDesc.pointer 113) := ⟨Try.runUnderlying35⟩
instance : TyAgg Try.prog 36 false := ⟨Try.isAgg36⟩
instance : TySize Try.prog 36 1 := ⟨Try.sizeOf36⟩
instance : TyZero Try.prog 36 (Value.int IntKind.i64 0) := ⟨Try.zeroValue36⟩
instance : TyElem Try.prog 36 (Value.int IntKind.i64 0) 1 8 := ⟨by kernel_rfl⟩
instance : TyDesc Try.prog 36 (TypeDesc.int IntKind.i64) := ⟨Try.runUnderlying36⟩
instance : TyAgg Try.prog 40 true := ⟨Try.isAgg40⟩
instance : TySize Try.prog 40 2 := ⟨Try.sizeOf40⟩
instance : TyZero Try.prog 40 (Value.agg #[(Value.int IntKind.i64 0), (Value.int IntKind.i64 0)]) := ⟨Try.zeroValue40⟩
instance : TyElem Try.prog 40 (Value.agg #[(Value.int IntKind.i64 0), (Value.int IntKind.i64 0)]) 2 16 := ⟨by kernel_rfl⟩
instance : TyField Try.prog 40 0 0 3 := ⟨_, _, Try.runUnderlying40, rfl, rfl, rfl, _, by decide, Try.sizeOf3⟩
instance : TyField Try.prog 40 1 1 3 := ⟨_, _, Try.runUnderlying40, rfl, rfl, rfl, _, by decide, Try.sizeOf3⟩
instance : TyPlaces Try.prog 40 [(0, 1), (1, 1)] := ⟨_, Try.runUnderlying40, fun w => by simp [Try.sizeOf3]⟩
instance : TyAgg Try.prog 42 false := ⟨Try.isAgg42⟩
instance : TySize Try.prog 42 1 := ⟨Try.sizeOf42⟩
instance : TyZero Try.prog 42 (Value.slice none 0 0) := ⟨Try.zeroValue42⟩
instance : TyElem Try.prog 42 (Value.slice none 0 0) 1 24 := ⟨by kernel_rfl⟩
instance : TyDesc Try.prog 42 (TypeDesc.slice 166) := ⟨Try.runUnderlying42⟩
instance : TyAgg Try.prog 44 true := ⟨Try.isAgg44⟩
instance : TySize Try.prog 44 15 := ⟨Try.sizeOf44⟩
instance : TyZero Try.prog 44 (Value.agg #[(Value.int IntKind.i64 0), (Value.int IntKind.i64 0), (Value.int IntKind.i64 0), (Value.int IntKind.i64 0), (Value.int IntKind.i64 0), (Value.int IntKind.i64 0), (Value.bool false), (Value.string { data := #[] }), (Value.string { data := #[] }), (Value.int IntKind.i64 0), (Value.slice none 0 0), (Value.slice none 0 0), (Value.slice none 0 0), (Value.slice none 0 0), (Value.int IntKind.i64 0)]) := ⟨Try.zeroValue44⟩
instance : TyElem Try.prog 44 (Value.agg #[(Value.int IntKind.i64 0), (Value.int IntKind.i64 0), (Value.int IntKind.i64 0), (Value.int IntKind.i64 0), (Value.int IntKind.i64 0), (Value.int IntKind.i64 0), (Value.bool false), (Value.string { data := #[] }), (Value.string { data := #[] }), (Value.int IntKind.i64 0), (Value.slice none 0 0), (Value.slice none 0 0), (Value.slice none 0 0), (Value.slice none 0 0), (Value.int IntKind.i64 0)]) 15 200 := ⟨by kernel_rfl⟩
instance : TyField Try.prog 44 0 0 3 := ⟨_, _, Try.runUnderlying44, rfl, rfl, rfl, _, by decide, Try.sizeOf3⟩
instance : TyField Try.prog 44 1 1 3 := ⟨_, _, Try.runUnderlying44, rfl, rfl, rfl, _, by decide, Try.sizeOf3⟩
instance : TyField Try.prog 44 2 2 3 := ⟨_, _, Try.runUnderlying44, rfl, rfl, rfl, _, by decide, Try.sizeOf3⟩
instance : TyField Try.prog 44 3 3 40 := ⟨_, _, Try.runUnderlying44, rfl, rfl, rfl, _, by decide, Try.sizeOf40⟩
instance : TyField Try.prog 44 4 5 3 := ⟨_, _, Try.runUnderlying44, rfl, rfl, rfl, _, by decide, Try.sizeOf3⟩
instance : TyField Try.prog 44 5 6 27 := ⟨_, _, Try.runUnderlying44, rfl, rfl, rfl, _, by decide, Try.sizeOf27⟩
instance : TyField Try.prog 44 6 11 22 := ⟨_, _, Try.runUnderlying44, rfl, rfl, rfl, _, by decide, Try.sizeOf22⟩
instance : TyField Try.prog 44 7 12 23 := ⟨_, _, Try.runUnderlying44, rfl, rfl, rfl, _, by decide, Try.sizeOf23⟩
instance : TyField Try.prog 44 8 13 42 := ⟨_, _, Try.runUnderlying44, rfl, rfl, rfl, _, by decide, Try.sizeOf42⟩
instance : TyField Try.prog 44 9 14 3 := ⟨_, _, Try.runUnderlying44, rfl, rfl, rfl, _, by decide, Try.sizeOf3⟩
instance : TyPlaces Try.prog 44 [(0, 1), (1, 1), (2, 1), (3, 2), (5, 1), (6, 5), (11, 1), (12, 1), (13, 1), (14, 1)] := ⟨_, Try.runUnderlying44, fun w => by simp [Try.sizeOf22, Try.sizeOf23, Try.sizeOf27, Try.sizeOf3, Try.sizeOf40, Try.sizeOf42]⟩
instance : TyAgg Try.prog 50 true := ⟨Try.isAgg50⟩
instance : TySize Try.prog 50 8 := ⟨Try.sizeOf50⟩
instance : TyZero Try.prog 50 (Value.agg #[(Value.int IntKind.i64 0), (Value.int IntKind.i64 0), (Value.int IntKind.i64 0), (Value.bool false), (Value.string { data := #[] }), (Value.string { data := #[] }), (Value.int IntKind.i64 0), (Value.slice none 0 0)]) := ⟨Try.zeroValue50⟩
instance : TyElem Try.prog 50 (Value.agg #[(Value.int IntKind.i64 0), (Value.int IntKind.i64 0), (Value.int IntKind.i64 0), (Value.bool false), (Value.string { data := #[] }), (Value.string { data := #[] }), (Value.int IntKind.i64 0), (Value.slice none 0 0)]) 8 96 := ⟨by kernel_rfl⟩
instance : TyField Try.prog 50 0 0 3 := ⟨_, _, Try.runUnderlying50, rfl, rfl, rfl, _, by decide, Try.sizeOf3⟩
instance : TyField Try.prog 50 1 1 40 := ⟨_, _, Try.runUnderlying50, rfl, rfl, rfl, _, by decide, Try.sizeOf40⟩
instance : TyField Try.prog 50 2 3 27 := ⟨_, _, Try.runUnderlying50, rfl, rfl, rfl, _, by decide, Try.sizeOf27⟩
instance : TyPlaces Try.prog 50 [(0, 1), (1, 2), (3, 5)] := ⟨_, Try.runUnderlying50, fun w => by simp [Try.sizeOf27, Try.sizeOf3, Try.sizeOf40]⟩
instance : TyAgg Try.prog 54 false := ⟨Try.isAgg54⟩
instance : TySize Try.prog 54 1 := ⟨Try.sizeOf54⟩
instance : TyZero Try.prog 54 (Value.pointer none) := ⟨Try.zeroValue54⟩
instance : TyElem Try.prog 54 (Value.pointer none) 1 8 := ⟨by kernel_rfl⟩
instance : TyDesc Try.prog 54 (TypeDesc.pointer 64) := ⟨Try.runUnderlying54⟩
instance : TyAgg Try.prog 64 true := ⟨Try.isAgg64⟩
instance : TySize Try.prog 64 4 := ⟨Try.sizeOf64⟩
instance : TyZero Try.prog 64 (Value.agg #[(Value.int IntKind.i64 0), (Value.int IntKind.i64 0), (Value.int IntKind.i64 0), (Value.slice none 0 0)]) := ⟨Try.zeroValue64⟩
instance : TyElem Try.prog 64 (Value.agg #[(Value.int IntKind.i64 0), (Value.int IntKind.i64 0), (Value.int IntKind.i64 0), (Value.slice none 0 0)]) 4 48 := ⟨by kernel_rfl⟩
instance : TyField Try.prog 64 0 0 3 := ⟨_, _, Try.runUnderlying64, rfl, rfl, rfl, _, by decide, Try.sizeOf3⟩
instance : TyField Try.prog 64 1 1 40 := ⟨_, _, Try.runUnderlying64, rfl, rfl, rfl, _, by decide, Try.sizeOf40⟩
instance : TyField Try.prog 64 2 3 22 := ⟨_, _, Try.runUnderlying64, rfl, rfl, rfl, _, by decide, Try.sizeOf22⟩
instance : TyPlaces Try.prog 64 [(0, 1), (1, 2), (3, 1)] := ⟨_, Try.runUnderlying64, fun w => by simp [Try.sizeOf22, Try.sizeOf3, Try.sizeOf40]⟩
instance : TyAgg Try.prog 70 false := ⟨Try.isAgg70⟩
instance : TySize Try.prog 70 1 := ⟨Try.sizeOf70⟩
instance : TyZero Try.prog 70 (Value.pointer none) := ⟨Try.zeroValue70⟩
instance : TyElem Try.prog 70 (Value.pointer none) 1 8 := ⟨by kernel_rfl⟩
instance : TyDesc Try.prog 70 (TypeDesc.pointer 133) := ⟨Try.runUnderlying70⟩
instance : TyAgg Try.prog 74 false := ⟨Try.isAgg74⟩
instance : TySize Try.prog 74 1 := ⟨Try.sizeOf74⟩
instance : TyZero Try.prog 74 Value.nilFunc := ⟨Try.zeroValue74⟩
instance : TyElem Try.prog 74 Value.nilFunc 1 8 := ⟨by kernel_rfl⟩
instance : TyDesc Try.prog 74 (TypeDesc.func #[40, 3] #[34, 36] false) := ⟨Try.runUnderlying74⟩
instance : TyAgg Try.prog 77 false := ⟨Try.isAgg77⟩
instance : TySize Try.prog 77 1 := ⟨Try.sizeOf77⟩
instance : TyZero Try.prog 77 Value.nilFunc := ⟨Try.zeroValue77⟩
instance : TyElem Try.prog 77 Value.nilFunc 1 8 := ⟨by kernel_rfl⟩
instance : TyDesc Try.prog 77 (TypeDesc.func #[] #[3] false) := ⟨Try.runUnderlying77⟩
instance : TyAgg Try.prog 79 false := ⟨Try.isAgg79⟩
instance : TySize Try.prog 79 1 := ⟨Try.sizeOf79⟩
instance : TyZero Try.prog 79 (Value.slice none 0 0) := ⟨Try.zeroValue79⟩
instance : TyElem Try.prog 79 (Value.slice none 0 0) 1 24 := ⟨by kernel_rfl⟩
instance : TyDesc Try.prog 79 (TypeDesc.slice 27) := ⟨Try.runUnderlying79⟩
instance : TyAgg Try.prog 83 false := ⟨Try.isAgg83⟩
instance : TySize Try.prog 83 1 := ⟨Try.sizeOf83⟩
instance : TyZero Try.prog 83 (Value.slice none 0 0) := ⟨Try.zeroValue83⟩
instance : TyElem Try.prog 83 (Value.slice none 0 0) 1 24 := ⟨by kernel_rfl⟩
instance : TyDesc Try.prog 83 (TypeDesc.slice 85) := ⟨Try.runUnderlying83⟩
instance : TyAgg Try.prog 85 true := ⟨Try.isAgg85⟩
instance : TySize Try.prog 85 24 := ⟨Try.sizeOf85⟩
instance : TyZero Try.prog 85 (Value.agg #[(Value.int IntKind.i64 0), (Value.int IntKind.i64 0), (Value.int IntKind.i64 0), (Value.int IntKind.i64 0), (Value.int IntKind.i64 0), (Value.int IntKind.i64 0), (Value.int IntKind.i64 0), (Value.int IntKind.i64 0), (Value.int IntKind.i64 0), (Value.int IntKind.i64 0), (Value.bool false), (Value.string { data := #[] }), (Value.string { data := #[] }), (Value.int IntKind.i64 0), (Value.slice none 0 0), (Value.slice none 0 0), (Value.slice none 0 0), (Value.slice none 0 0), (Value.int IntKind.i64 0), (Value.bool false), (Value.string { data := #[] }), (Value.string { data := #[] }), (Value.int IntKind.i64 0), (Value.slice none 0 0)]) := ⟨Try.zeroValue85⟩
instance : TyElem Try.prog 85 (Value.agg #[(Value.int IntKind.i64 0), (Value.int IntKind.i64 0), (Value.int IntKind.i64 0), (Value.int IntKind.i64 0), (Value.int IntKind.i64 0), (Value.int IntKind.i64 0), (Value.int IntKind.i64 0), (Value.int IntKind.i64 0), (Value.int IntKind.i64 0), (Value.int IntKind.i64 0), (Value.bool false), (Value.string { data := #[] }), (Value.string { data := #[] }), (Value.int IntKind.i64 0), (Value.slice none 0 0), (Value.slice none 0 0), (Value.slice none 0 0), (Value.slice none 0 0), (Value.int IntKind.i64 0), (Value.bool false), (Value.string { data := #[] }), (Value.string { data := #[] }), (Value.int IntKind.i64 0), (Value.slice none 0 0)]) 24 304 := ⟨by kernel_rfl⟩
instance : TyField Try.prog 85 0 0 3 := ⟨_, _, Try.runUnderlying85, rfl, rfl, rfl, _, by decide, Try.sizeOf3⟩
instance : TyField Try.prog 85 1 1 40 := ⟨_, _, Try.runUnderlying85, rfl, rfl, rfl, _, by decide, Try.sizeOf40⟩
instance : TyField Try.prog 85 2 3 3 := ⟨_, _, Try.runUnderlying85, rfl, rfl, rfl, _, by decide, Try.sizeOf3⟩
instance : TyField Try.prog 85 3 4 44 := ⟨_, _, Try.runUnderlying85, rfl, rfl, rfl, _, by decide, Try.sizeOf44⟩
instance : TyField Try.prog 85 4 19 27 := ⟨_, _, Try.runUnderlying85, rfl, rfl, rfl, _, by decide, Try.sizeOf27⟩
instance : TyPlaces Try.prog 85 [(0, 1), (1, 2), (3, 1), (4, 15), (19, 5)] := ⟨_, Try.runUnderlying85, fun w => by simp [Try.sizeOf27, Try.sizeOf3, Try.sizeOf40, Try.sizeOf44]⟩
instance : TyAgg Try.prog 90 false := ⟨Try.isAgg90⟩
instance : TySize Try.prog 90 1 := ⟨Try.sizeOf90⟩
instance : TyZero Try.prog 90 (Value.slice none 0 0) := ⟨Try.zeroValue90⟩
instance : TyElem Try.prog 90 (Value.slice none 0 0) 1 24 := ⟨by kernel_rfl⟩
instance : TyDesc Try.prog 90 (TypeDesc.slice 95) := ⟨Try.runUnderlying90⟩
instance : TyAgg Try.prog 91 false := ⟨Try.isAgg91⟩
instance : TySize Try.prog 91 1 := ⟨Try.sizeOf91⟩
instance : TyZero Try.prog 91 (Value.pointer none) := ⟨Try.zeroValue91⟩
instance : TyElem Try.prog 91 (Value.pointer none) 1 8 := ⟨by kernel_rfl⟩
instance : TyDesc Try.prog 91 (TypeDesc.pointer 99) := ⟨Try.runUnderlying91⟩
instance : TyAgg Try.prog 95 true := ⟨Try.isAgg95⟩
instance : TySize Try.prog 95 8 := ⟨Try.sizeOf95⟩
instance : TyZero Try.prog 95 (Value.agg #[(Value.int IntKind.i64 0), (Value.int IntKind.i64 0), (Value.int IntKind.i64 0), (Value.bool false), (Value.string { data := #[] }), (Value.string { data := #[] }), (Value.int IntKind.i64 0), (Value.slice none 0 0)]) := ⟨Try.zeroValue95⟩
instance : TyElem Try.prog 95 (Value.agg #[(Value.int IntKind.i64 0), (Value.int IntKind.i64 0), (Value.int IntKind.i64 0), (Value.bool false), (Value.string { data := #[] }), (Value.string { data := #[] }), (Value.int IntKind.i64 0), (Value.slice none 0 0)]) 8 96 := ⟨by kernel_rfl⟩
instance : TyField Try.prog 95 0 0 3 := ⟨_, _, Try.runUnderlying95, rfl, rfl, rfl, _, by decide, Try.sizeOf3⟩
instance : TyField Try.prog 95 1 1 3 := ⟨_, _, Try.runUnderlying95, rfl, rfl, rfl, _, by decide, Try.sizeOf3⟩
instance : TyField Try.prog 95 2 2 3 := ⟨_, _, Try.runUnderlying95, rfl, rfl, rfl, _, by decide, Try.sizeOf3⟩
instance : TyField Try.prog 95 3 3 27 := ⟨_, _, Try.runUnderlying95, rfl, rfl, rfl, _, by decide, Try.sizeOf27⟩
instance : TyPlaces Try.prog 95 [(0, 1), (1, 1), (2, 1), (3, 5)] := ⟨_, Try.runUnderlying95, fun w => by simp [Try.sizeOf27, Try.sizeOf3]⟩
instance : TyAgg Try.prog 96 false := ⟨Try.isAgg96⟩
instance : TySize Try.prog 96 1 := ⟨Try.sizeOf96⟩
instance : TyZero Try.prog 96 (Value.slice none 0 0) := ⟨Try.zeroValue96⟩
instance : TyElem Try.prog 96 (Value.slice none 0 0) 1 24 := ⟨by kernel_rfl⟩
instance : TyDesc Try.prog 96 (TypeDesc.slice 70) := ⟨Try.runUnderlying96⟩
instance : TyAgg Try.prog 97 false := ⟨Try.isAgg97⟩
instance : TySize Try.prog 97 1 := ⟨Try.sizeOf97⟩
instance : TyZero Try.prog 97 (Value.slice none 0 0) := ⟨Try.zeroValue97⟩
instance : TyElem Try.prog 97 (Value.slice none 0 0) 1 24 := ⟨by kernel_rfl⟩
instance : TyDesc Try.prog 97 (TypeDesc.slice 35) := ⟨Try.runUnderlying97⟩
instance : TyAgg Try.prog 98 true := ⟨Try.isAgg98⟩
instance : TySize Try.prog 98 5 := ⟨Try.sizeOf98⟩
instance : TyZero Try.prog 98 (Value.agg #[(Value.int IntKind.i64 0), (Value.slice none 0 0), (Value.slice none 0 0), (Value.slice none 0 0), (Value.slice none 0 0)]) := ⟨Try.zeroValue98⟩
instance : TyElem Try.prog 98 (Value.agg #[(Value.int IntKind.i64 0), (Value.slice none 0 0), (Value.slice none 0 0), (Value.slice none 0 0), (Value.slice none 0 0)]) 5 104 := ⟨by kernel_rfl⟩
instance : TyField Try.prog 98 0 0 3 := ⟨_, _, Try.runUnderlying98, rfl, rfl, rfl, _, by decide, Try.sizeOf3⟩
instance : TyField Try.prog 98 1 1 96 := ⟨_, _, Try.runUnderlying98, rfl, rfl, rfl, _, by decide, Try.sizeOf96⟩
instance : TyField Try.prog 98 2 2 97 := ⟨_, _, Try.runUnderlying98, rfl, rfl, rfl, _, by decide, Try.sizeOf97⟩
instance : TyField Try.prog 98 3 3 34 := ⟨_, _, Try.runUnderlying98, rfl, rfl, rfl, _, by decide, Try.sizeOf34⟩
instance : TyField Try.prog 98 4 4 22 := ⟨_, _, Try.runUnderlying98, rfl, rfl, rfl, _, by decide, Try.sizeOf22⟩
instance : TyPlaces Try.prog 98 [(0, 1), (1, 1), (2, 1), (3, 1), (4, 1)] := ⟨_, Try.runUnderlying98, fun w => by simp [Try.sizeOf22, Try.sizeOf3, Try.sizeOf34, Try.sizeOf96, Try.sizeOf97]⟩
instance : TyAgg Try.prog 99 true := ⟨Try.isAgg99⟩
instance : TySize Try.prog 99 5 := ⟨Try.sizeOf99⟩
instance : TyZero Try.prog 99 (Value.agg #[(Value.int IntKind.i64 0), (Value.slice none 0 0), (Value.slice none 0 0), (Value.slice none 0 0), (Value.slice none 0 0)]) := ⟨Try.zeroValue99⟩
instance : TyElem Try.prog 99 (Value.agg #[(Value.int IntKind.i64 0), (Value.slice none 0 0), (Value.slice none 0 0), (Value.slice none 0 0), (Value.slice none 0 0)]) 5 104 := ⟨by kernel_rfl⟩
instance : TyField Try.prog 99 0 0 3 := ⟨_, _, Try.runUnderlying99, rfl, rfl, rfl, _, by decide, Try.sizeOf3⟩
instance : TyField Try.prog 99 1 1 96 := ⟨_, _, Try.runUnderlying99, rfl, rfl, rfl, _, by decide, Try.sizeOf96⟩
instance : TyField Try.prog 99 2 2 97 := ⟨_, _, Try.runUnderlying99, rfl, rfl, rfl, _, by decide, Try.sizeOf97⟩
instance : TyField Try.prog 99 3 3 34 := ⟨_, _, Try.runUnderlying99, rfl, rfl, rfl, _, by decide, Try.sizeOf34⟩
instance : TyField Try.prog 99 4 4 22 := ⟨_, _, Try.runUnderlying99, rfl, rfl, rfl, _, by decide, Try.sizeOf22⟩
instance : TyPlaces Try.prog 99 [(0, 1), (1, 1), (2, 1), (3, 1), (4, 1)] := ⟨_, Try.runUnderlying99, fun w => by simp [Try.sizeOf22, Try.sizeOf3, Try.sizeOf34, Try.sizeOf96, Try.sizeOf97]⟩
instance : TyAgg Try.prog 105 false := ⟨Try.isAgg105⟩
instance : TySize Try.prog 105 1 := ⟨Try.sizeOf105⟩
instance : TyZero Try.prog 105 (Value.pointer none) := ⟨Try.zeroValue105⟩
instance : TyElem Try.prog 105 (Value.pointer none) 1 8 := ⟨by kernel_rfl⟩
instance : TyDesc Try.prog 105 (TypeDesc.pointer 154) := ⟨Try.runUnderlying105⟩
instance : TyAgg Try.prog 108 false := ⟨Try.isAgg108⟩
instance : TySize Try.prog 108 1 := ⟨Try.sizeOf108⟩
instance : TyZero Try.prog 108 Value.nilFunc := ⟨Try.zeroValue108⟩
instance : TyElem Try.prog 108 Value.nilFunc 1 8 := ⟨by kernel_rfl⟩
instance : TyDesc Try.prog 108 (TypeDesc.func #[3] #[4] false) := ⟨Try.runUnderlying108⟩
instance : TyAgg Try.prog 109 false := ⟨Try.isAgg109⟩
instance : TySize Try.prog 109 1 := ⟨Try.sizeOf109⟩
instance : TyZero Try.prog 109 Value.nilFunc := ⟨Try.zeroValue109⟩
instance : TyElem Try.prog 109 Value.nilFunc 1 8 := ⟨by kernel_rfl⟩
instance : TyDesc Try.prog 109 (TypeDesc.func #[3] #[3] false) := ⟨Try.runUnderlying109⟩
instance : TyAgg Try.prog 111 false := ⟨Try.isAgg111⟩
instance : TySize Try.prog 111 1 := ⟨Try.sizeOf111⟩
instance : TyZero Try.prog 111 (Value.map none) := ⟨Try.zeroValue111⟩
instance : TyElem Try.prog 111 (Value.map none) 1 8 := ⟨by kernel_rfl⟩
instance : TyDesc Try.prog 111 (TypeDesc.map 3 50) := ⟨Try.runUnderlying111⟩
instance : TyAgg Try.prog 113 true := ⟨Try.isAgg113⟩
instance : TySize Try.prog 113 4 := ⟨Try.sizeOf113⟩
instance : TyZero Try.prog 113 (Value.agg #[(Value.int IntKind.i64 0), (Value.int IntKind.i64 0), (Value.int IntKind.i64 0), (Value.map none)]) := ⟨Try.zeroValue113⟩
instance : TyElem Try.prog 113 (Value.agg #[(Value.int IntKind.i64 0), (Value.int IntKind.i64 0), (Value.int IntKind.i64 0), (Value.map none)]) 4 32 := ⟨by kernel_rfl⟩
instance : TyField Try.prog 113 0 0 3 := ⟨_, _, Try.runUnderlying113, rfl, rfl, rfl, _, by decide, Try.sizeOf3⟩
instance : TyField Try.prog 113 1 1 40 := ⟨_, _, Try.runUnderlying113, rfl, rfl, rfl, _, by decide, Try.sizeOf40⟩
instance : TyField Try.prog 113 2 3 111 := ⟨_, _, Try.runUnderlying113, rfl, rfl, rfl, _, by decide, Try.sizeOf111⟩
instance : TyPlaces Try.prog 113 [(0, 1), (1, 2), (3, 1)] := ⟨_, Try.runUnderlying113, fun w => by simp [Try.sizeOf111, Try.sizeOf3, Try.sizeOf40]⟩
instance : TyAgg Try.prog 115 true := ⟨Try.isAgg115⟩
instance : TySize Try.prog 115 3 := ⟨Try.sizeOf115⟩
instance : TyZero Try.prog 115 (Value.agg #[(Value.string { data := #[] }), (Value.bool false), (Value.bool false)]) := ⟨Try.zeroValue115⟩
instance : TyElem Try.prog 115 (Value.agg #[(Value.string { data := #[] }), (Value.bool false), (Value.bool false)]) 3 24 := ⟨by kernel_rfl⟩
instance : TyField Try.prog 115 0 0 9 := ⟨_, _, Try.runUnderlying115, rfl, rfl, rfl, _, by decide, Try.sizeOf9⟩
instance : TyField Try.prog 115 1 1 4 := ⟨_, _, Try.runUnderlying115, rfl, rfl, rfl, _, by decide, Try.sizeOf4⟩
instance : TyField Try.prog 115 2 2 4 := ⟨_, _, Try.runUnderlying115, rfl, rfl, rfl, _, by decide, Try.sizeOf4⟩
instance : TyPlaces Try.prog 115 [(0, 1), (1, 1), (2, 1)] := ⟨_, Try.runUnderlying115, fun w => by simp [Try.sizeOf4, Try.sizeOf9]⟩
instance : TyAgg Try.prog 120 false := ⟨Try.isAgg120⟩
instance : TySize Try.prog 120 1 := ⟨Try.sizeOf120⟩
instance : TyZero Try.prog 120 (Value.slice none 0 0) := ⟨Try.zeroValue120⟩
instance : TyElem Try.prog 120 (Value.slice none 0 0) 1 24 := ⟨by kernel_rfl⟩
instance : TyDesc Try.prog 120 (TypeDesc.slice 5) := ⟨Try.runUnderlying120⟩
instance : TyAgg Try.prog 128 false := ⟨Try.isAgg128⟩
instance : TySize Try.prog 128 1 := ⟨Try.sizeOf128⟩
instance : TyZero Try.prog 128 Value.nilFunc := ⟨Try.zeroValue128⟩
instance : TyElem Try.prog 128 Value.nilFunc 1 8 := ⟨by kernel_rfl⟩
instance : TyDesc Try.prog 128 (TypeDesc.func #[3, 50] #[4] false) := ⟨Try.runUnderlying128⟩
instance : TyAgg Try.prog 131 false := ⟨Try.isAgg131⟩
instance : TySize Try.prog 131 1 := ⟨Try.sizeOf131⟩
instance : TyZero Try.prog 131 (Value.map none) := ⟨Try.zeroValue131⟩
instance : TyElem Try.prog 131 (Value.map none) 1 8 := ⟨by kernel_rfl⟩
instance : TyDesc Try.prog 131 (TypeDesc.map 3 144) := ⟨Try.runUnderlying131⟩
instance : TyAgg Try.prog 133 true := ⟨Try.isAgg133⟩
instance : TySize Try.prog 133 12 := ⟨Try.sizeOf133⟩
instance : TyZero Try.prog 133 (Value.agg #[(Value.int IntKind.i64 0), (Value.int IntKind.i64 0), (Value.int IntKind.i64 0), (Value.int IntKind.i64 0), (Value.int IntKind.i64 0), (Value.int IntKind.i64 0), (Value.int IntKind.i64 0), (Value.int IntKind.i64 0), (Value.int IntKind.i64 0), (Value.pointer none), (Value.slice none 0 0), (Value.map none)]) := ⟨Try.zeroValue133⟩
instance : TyElem Try.prog 133 (Value.agg #[(Value.int IntKind.i64 0), (Value.int IntKind.i64 0), (Value.int IntKind.i64 0), (Value.int IntKind.i64 0), (Value.int IntKind.i64 0), (Value.int IntKind.i64 0), (Value.int IntKind.i64 0), (Value.int IntKind.i64 0), (Value.int IntKind.i64 0), (Value.pointer none), (Value.slice none 0 0), (Value.map none)]) 12 112 := ⟨by kernel_rfl⟩
instance : TyField Try.prog 133 0 0 3 := ⟨_, _, Try.runUnderlying133, rfl, rfl, rfl, _, by decide, Try.sizeOf3⟩
instance : TyField Try.prog 133 1 1 3 := ⟨_, _, Try.runUnderlying133, rfl, rfl, rfl, _, by decide, Try.sizeOf3⟩
instance : TyField Try.prog 133 2 2 3 := ⟨_, _, Try.runUnderlying133, rfl, rfl, rfl, _, by decide, Try.sizeOf3⟩
instance : TyField Try.prog 133 3 3 40 := ⟨_, _, Try.runUnderlying133, rfl, rfl, rfl, _, by decide, Try.sizeOf40⟩
instance : TyField Try.prog 133 4 5 40 := ⟨_, _, Try.runUnderlying133, rfl, rfl, rfl, _, by decide, Try.sizeOf40⟩
instance : TyField Try.prog 133 5 7 3 := ⟨_, _, Try.runUnderlying133, rfl, rfl, rfl, _, by decide, Try.sizeOf3⟩
instance : TyField Try.prog 133 6 8 3 := ⟨_, _, Try.runUnderlying133, rfl, rfl, rfl, _, by decide, Try.sizeOf3⟩
instance : TyField Try.prog 133 7 9 105 := ⟨_, _, Try.runUnderlying133, rfl, rfl, rfl, _, by decide, Try.sizeOf105⟩
instance : TyField Try.prog 133 8 10 22 := ⟨_, _, Try.runUnderlying133, rfl, rfl, rfl, _, by decide, Try.sizeOf22⟩
instance : TyField Try.prog 133 9 11 131 := ⟨_, _, Try.runUnderlying133, rfl, rfl, rfl, _, by decide, Try.sizeOf131⟩
instance : TyPlaces Try.prog 133 [(0, 1), (1, 1), (2, 1), (3, 2), (5, 2), (7, 1), (8, 1), (9, 1), (10, 1), (11, 1)] := ⟨_, Try.runUnderlying133, fun w => by simp [Try.sizeOf105, Try.sizeOf131, Try.sizeOf22, Try.sizeOf3, Try.sizeOf40]⟩
instance : TyAgg Try.prog 143 true := ⟨Try.isAgg143⟩
instance : TySize Try.prog 143 6 := ⟨Try.sizeOf143⟩
instance : TyZero Try.prog 143 (Value.agg #[(Value.bool false), (Value.string { data := #[] }), (Value.string { data := #[] }), (Value.int IntKind.i64 0), (Value.slice none 0 0), (Value.pointer none)]) := ⟨Try.zeroValue143⟩
instance : TyElem Try.prog 143 (Value.agg #[(Value.bool false), (Value.string { data := #[] }), (Value.string { data := #[] }), (Value.int IntKind.i64 0), (Value.slice none 0 0), (Value.pointer none)]) 6 80 := ⟨by kernel_rfl⟩
instance : TyField Try.prog 143 0 0 27 := ⟨_, _, Try.runUnderlying143, rfl, rfl, rfl, _, by decide, Try.sizeOf27⟩
instance : TyField Try.prog 143 1 5 105 := ⟨_, _, Try.runUnderlying143, rfl, rfl, rfl, _, by decide, Try.sizeOf105⟩
instance : TyPlaces Try.prog 143 [(0, 5), (5, 1)] := ⟨_, Try.runUnderlying143, fun w => by simp [Try.sizeOf105, Try.sizeOf27]⟩
instance : TyAgg Try.prog 144 true := ⟨Try.isAgg144⟩
instance : TySize Try.prog 144 6 := ⟨Try.sizeOf144⟩
instance : TyZero Try.prog 144 (Value.agg #[(Value.bool false), (Value.string { data := #[] }), (Value.string { data := #[] }), (Value.int IntKind.i64 0), (Value.slice none 0 0), (Value.pointer none)]) := ⟨Try.zeroValue144⟩
instance : TyElem Try.prog 144 (Value.agg #[(Value.bool false), (Value.string { data := #[] }), (Value.string { data := #[] }), (Value.int IntKind.i64 0), (Value.slice none 0 0), (Value.pointer none)]) 6 80 := ⟨by kernel_rfl⟩
instance : TyField Try.prog 144 0 0 27 := ⟨_, _, Try.runUnderlying144, rfl, rfl, rfl, _, by decide, Try.sizeOf27⟩
instance : TyField Try.prog 144 1 5 105 := ⟨_, _, Try.runUnderlying144, rfl, rfl, rfl, _, by decide, Try.sizeOf105⟩
instance : TyPlaces Try.prog 144 [(0, 5), (5, 1)] := ⟨_, Try.runUnderlying144, fun w => by simp [Try.sizeOf105, Try.sizeOf27]⟩
instance : TyAgg Try.prog 146 false := ⟨Try.isAgg146⟩
instance : TySize Try.prog 146 1 := ⟨Try.sizeOf146⟩
instance : TyZero Try.prog 146 Value.nilFunc := ⟨Try.zeroValue146⟩
instance : TyElem Try.prog 146 Value.nilFunc 1 8 := ⟨by kernel_rfl⟩
instance : TyDesc Try.prog 146 (TypeDesc.func #[3] #[34] false) := ⟨Try.runUnderlying146⟩
instance : TyAgg Try.prog 151 false := ⟨Try.isAgg151⟩
instance : TySize Try.prog 151 1 := ⟨Try.sizeOf151⟩
instance : TyZero Try.prog 151 (Value.int IntKind.u64 0) := ⟨Try.zeroValue151⟩
instance : TyElem Try.prog 151 (Value.int IntKind.u64 0) 1 8 := ⟨by kernel_rfl⟩
instance : TyDesc Try.prog 151 (TypeDesc.int IntKind.u64) := ⟨Try.runUnderlying151⟩
instance : TyAgg Try.prog 152 true := ⟨Try.isAgg152⟩
instance : TySize Try.prog 152 7 := ⟨Try.sizeOf152⟩
instance : TyZero Try.prog 152 (Value.agg #[(Value.bool false), (Value.bool false), (Value.bool false), (Value.bool false), (Value.bool false), (Value.bool false), (Value.bool false)]) := ⟨Try.zeroValue152⟩
instance : TyElem Try.prog 152 (Value.agg #[(Value.bool false), (Value.bool false), (Value.bool false), (Value.bool false), (Value.bool false), (Value.bool false), (Value.bool false)]) 7 7 := ⟨by kernel_rfl⟩
instance : TyDesc Try.prog 152 (TypeDesc.array 7 4) := ⟨Try.runUnderlying152⟩
instance : TyAgg Try.prog 153 true := ⟨Try.isAgg153⟩
instance : TySize Try.prog 153 8 := ⟨Try.sizeOf153⟩
instance : TyZero Try.prog 153 (Value.agg #[(Value.bool false), (Value.bool false), (Value.bool false), (Value.bool false), (Value.bool false), (Value.bool false), (Value.bool false), (Value.int IntKind.i64 0)]) := ⟨Try.zeroValue153⟩
instance : TyElem Try.prog 153 (Value.agg #[(Value.bool false), (Value.bool false), (Value.bool false), (Value.bool false), (Value.bool false), (Value.bool false), (Value.bool false), (Value.int IntKind.i64 0)]) 8 16 := ⟨by kernel_rfl⟩
instance : TyField Try.prog 153 0 0 152 := ⟨_, _, Try.runUnderlying153, rfl, rfl, rfl, _, by decide, Try.sizeOf152⟩
instance : TyField Try.prog 153 1 7 3 := ⟨_, _, Try.runUnderlying153, rfl, rfl, rfl, _, by decide, Try.sizeOf3⟩
instance : TyPlaces Try.prog 153 [(0, 7), (7, 1)] := ⟨_, Try.runUnderlying153, fun w => by simp [Try.sizeOf152, Try.sizeOf3]⟩
instance : TyAgg Try.prog 154 true := ⟨Try.isAgg154⟩
instance : TySize Try.prog 154 8 := ⟨Try.sizeOf154⟩
instance : TyZero Try.prog 154 (Value.agg #[(Value.bool false), (Value.bool false), (Value.bool false), (Value.bool false), (Value.bool false), (Value.bool false), (Value.bool false), (Value.int IntKind.i64 0)]) := ⟨Try.zeroValue154⟩
instance : TyElem Try.prog 154 (Value.agg #[(Value.bool false), (Value.bool false), (Value.bool false), (Value.bool false), (Value.bool false), (Value.bool false), (Value.bool false), (Value.int IntKind.i64 0)]) 8 16 := ⟨by kernel_rfl⟩
instance : TyField Try.prog 154 0 0 152 := ⟨_, _, Try.runUnderlying154, rfl, rfl, rfl, _, by decide, Try.sizeOf152⟩
instance : TyField Try.prog 154 1 7 3 := ⟨_, _, Try.runUnderlying154, rfl, rfl, rfl, _, by decide, Try.sizeOf3⟩
instance : TyPlaces Try.prog 154 [(0, 7), (7, 1)] := ⟨_, Try.runUnderlying154, fun w => by simp [Try.sizeOf152, Try.sizeOf3]⟩
instance : TyAgg Try.prog 157 false := ⟨Try.isAgg157⟩
instance : TySize Try.prog 157 1 := ⟨Try.sizeOf157⟩
instance : TyZero Try.prog 157 Value.nilFunc := ⟨Try.zeroValue157⟩
instance : TyElem Try.prog 157 Value.nilFunc 1 8 := ⟨by kernel_rfl⟩
instance : TyDesc Try.prog 157 (TypeDesc.func #[108] #[] false) := ⟨Try.runUnderlying157⟩
instance : TyAgg Try.prog 158 false := ⟨Try.isAgg158⟩
instance : TySize Try.prog 158 1 := ⟨Try.sizeOf158⟩
instance : TyZero Try.prog 158 Value.nilFunc := ⟨Try.zeroValue158⟩
instance : TyElem Try.prog 158 Value.nilFunc 1 8 := ⟨by kernel_rfl⟩
instance : TyDesc Try.prog 158 (TypeDesc.func #[108] #[] false) := ⟨Try.runUnderlying158⟩
instance : TyAgg Try.prog 164 true := ⟨Try.isAgg164⟩
instance : TySize Try.prog 164 2 := ⟨Try.sizeOf164⟩
instance : TyZero Try.prog 164 (Value.agg #[(Value.int IntKind.i64 0), (Value.int IntKind.i64 0)]) := ⟨Try.zeroValue164⟩
instance : TyElem Try.prog 164 (Value.agg #[(Value.int IntKind.i64 0), (Value.int IntKind.i64 0)]) 2 16 := ⟨by kernel_rfl⟩
instance : TyField Try.prog 164 0 0 3 := ⟨_, _, Try.runUnderlying164, rfl, rfl, rfl, _, by decide, Try.sizeOf3⟩
instance : TyField Try.prog 164 1 1 3 := ⟨_, _, Try.runUnderlying164, rfl, rfl, rfl, _, by decide, Try.sizeOf3⟩
instance : TyPlaces Try.prog 164 [(0, 1), (1, 1)] := ⟨_, Try.runUnderlying164, fun w => by simp [Try.sizeOf3]⟩
instance : TyAgg Try.prog 166 true := ⟨Try.isAgg166⟩
instance : TySize Try.prog 166 8 := ⟨Try.sizeOf166⟩
instance : TyZero Try.prog 166 (Value.agg #[(Value.int IntKind.i64 0), (Value.int IntKind.i64 0), (Value.slice none 0 0), (Value.string { data := #[] }), (Value.int IntKind.i64 0), (Value.string { data := #[] }), (Value.int IntKind.i64 0), (Value.bool false)]) := ⟨Try.zeroValue166⟩
instance : TyElem Try.prog 166 (Value.agg #[(Value.int IntKind.i64 0), (Value.int IntKind.i64 0), (Value.slice none 0 0), (Value.string { data := #[] }), (Value.int IntKind.i64 0), (Value.string { data := #[] }), (Value.int IntKind.i64 0), (Value.bool false)]) 8 96 := ⟨by kernel_rfl⟩
instance : TyField Try.prog 166 0 0 164 := ⟨_, _, Try.runUnderlying166, rfl, rfl, rfl, _, by decide, Try.sizeOf164⟩
instance : TyField Try.prog 166 1 2 23 := ⟨_, _, Try.runUnderlying166, rfl, rfl, rfl, _, by decide, Try.sizeOf23⟩
instance : TyField Try.prog 166 2 3 9 := ⟨_, _, Try.runUnderlying166, rfl, rfl, rfl, _, by decide, Try.sizeOf9⟩
instance : TyField Try.prog 166 3 4 3 := ⟨_, _, Try.runUnderlying166, rfl, rfl, rfl, _, by decide, Try.sizeOf3⟩
instance : TyField Try.prog 166 4 5 9 := ⟨_, _, Try.runUnderlying166, rfl, rfl, rfl, _, by decide, Try.sizeOf9⟩
instance : TyField Try.prog 166 5 6 3 := ⟨_, _, Try.runUnderlying166, rfl, rfl, rfl, _, by decide, Try.sizeOf3⟩
instance : TyField Try.prog 166 6 7 4 := ⟨_, _, Try.runUnderlying166, rfl, rfl, rfl, _, by decide, Try.sizeOf4⟩
instance : TyPlaces Try.prog 166 [(0, 2), (2, 1), (3, 1), (4, 1), (5, 1), (6, 1), (7, 1)] := ⟨_, Try.runUnderlying166, fun w => by simp [Try.sizeOf164, Try.sizeOf23, Try.sizeOf3, Try.sizeOf4, Try.sizeOf9]⟩
instance : TyAgg Try.prog 168 false := ⟨Try.isAgg168⟩
instance : TySize Try.prog 168 1 := ⟨Try.sizeOf168⟩
instance : TyZero Try.prog 168 (Value.pointer none) := ⟨Try.zeroValue168⟩
instance : TyElem Try.prog 168 (Value.pointer none) 1 8 := ⟨by kernel_rfl⟩
instance : TyDesc Try.prog 168 (TypeDesc.pointer 170) := ⟨Try.runUnderlying168⟩
instance : TyAgg Try.prog 170 true := ⟨Try.isAgg170⟩
instance : TySize Try.prog 170 3 := ⟨Try.sizeOf170⟩
instance : TyZero Try.prog 170 (Value.agg #[(Value.slice none 0 0), (Value.int IntKind.i64 0), (Value.bool false)]) := ⟨Try.zeroValue170⟩
instance : TyElem Try.prog 170 (Value.agg #[(Value.slice none 0 0), (Value.int IntKind.i64 0), (Value.bool false)]) 3 40 := ⟨by kernel_rfl⟩
instance : TyField Try.prog 170 0 0 120 := ⟨_, _, Try.runUnderlying170, rfl, rfl, rfl, _, by decide, Try.sizeOf120⟩
instance : TyField Try.prog 170 1 1 3 := ⟨_, _, Try.runUnderlying170, rfl, rfl, rfl, _, by decide, Try.sizeOf3⟩
instance : TyField Try.prog 170 2 2 4 := ⟨_, _, Try.runUnderlying170, rfl, rfl, rfl, _, by decide, Try.sizeOf4⟩
instance : TyPlaces Try.prog 170 [(0, 1), (1, 1), (2, 1)] := ⟨_, Try.runUnderlying170, fun w => by simp [Try.sizeOf120, Try.sizeOf3, Try.sizeOf4]⟩
instance : TyAgg Try.prog 174 false := ⟨Try.isAgg174⟩
instance : TySize Try.prog 174 1 := ⟨Try.sizeOf174⟩
instance : TyZero Try.prog 174 (Value.pointer none) := ⟨Try.zeroValue174⟩
instance : TyElem Try.prog 174 (Value.pointer none) 1 8 := ⟨by kernel_rfl⟩
instance : TyDesc Try.prog 174 (TypeDesc.pointer 205) := ⟨Try.runUnderlying174⟩
instance : TyAgg Try.prog 175 false := ⟨Try.isAgg175⟩
instance : TySize Try.prog 175 1 := ⟨Try.sizeOf175⟩
instance : TyZero Try.prog 175 Value.nilFunc := ⟨Try.zeroValue175⟩
instance : TyElem Try.prog 175 Value.nilFunc 1 8 := ⟨by kernel_rfl⟩
instance : TyDesc Try.prog 175 (TypeDesc.func #[174] #[] false) := ⟨Try.runUnderlying175⟩
instance : TyAgg Try.prog 179 false := ⟨Try.isAgg179⟩
instance : TySize Try.prog 179 1 := ⟨Try.sizeOf179⟩
instance : TyZero Try.prog 179 (Value.int IntKind.i64 0) := ⟨Try.zeroValue179⟩
instance : TyElem Try.prog 179 (Value.int IntKind.i64 0) 1 8 := ⟨by kernel_rfl⟩
instance : TyDesc Try.prog 179 (TypeDesc.int IntKind.i64) := ⟨Try.runUnderlying179⟩
instance : TyAgg Try.prog 188 false := ⟨Try.isAgg188⟩
instance : TySize Try.prog 188 1 := ⟨Try.sizeOf188⟩
instance : TyZero Try.prog 188 (Value.int IntKind.u32 0) := ⟨Try.zeroValue188⟩
instance : TyElem Try.prog 188 (Value.int IntKind.u32 0) 1 4 := ⟨by kernel_rfl⟩
instance : TyDesc Try.prog 188 (TypeDesc.int IntKind.u32) := ⟨Try.runUnderlying188⟩
instance : TyAgg Try.prog 190 false := ⟨Try.isAgg190⟩
instance : TySize Try.prog 190 1 := ⟨Try.sizeOf190⟩
instance : TyZero Try.prog 190 (Value.int IntKind.u64 0) := ⟨Try.zeroValue190⟩
instance : TyElem Try.prog 190 (Value.int IntKind.u64 0) 1 8 := ⟨by kernel_rfl⟩
instance : TyDesc Try.prog 190 (TypeDesc.int IntKind.u64) := ⟨Try.runUnderlying190⟩
instance : TyAgg Try.prog 201 false := ⟨Try.isAgg201⟩
instance : TySize Try.prog 201 1 := ⟨Try.sizeOf201⟩
instance : TyZero Try.prog 201 Value.nilFunc := ⟨Try.zeroValue201⟩
instance : TyElem Try.prog 201 Value.nilFunc 1 8 := ⟨by kernel_rfl⟩
instance : TyDesc Try.prog 201 (TypeDesc.func #[] #[50] false) := ⟨Try.runUnderlying201⟩
instance : TyAgg Try.prog 203 false := ⟨Try.isAgg203⟩
instance : TySize Try.prog 203 1 := ⟨Try.sizeOf203⟩
instance : TyZero Try.prog 203 Value.nilFunc := ⟨Try.zeroValue203⟩
instance : TyElem Try.prog 203 Value.nilFunc 1 8 := ⟨by kernel_rfl⟩
instance : TyDesc Try.prog 203 (TypeDesc.func #[] #[166] false) := ⟨Try.runUnderlying203⟩
instance : TyAgg Try.prog 205 true := ⟨Try.isAgg205⟩
instance : TySize Try.prog 205 2 := ⟨Try.sizeOf205⟩
instance : TyZero Try.prog 205 (Value.agg #[(Value.slice none 0 0), (Value.bool false)]) := ⟨Try.zeroValue205⟩
instance : TyElem Try.prog 205 (Value.agg #[(Value.slice none 0 0), (Value.bool false)]) 2 32 := ⟨by kernel_rfl⟩
instance : TyField Try.prog 205 0 0 120 := ⟨_, _, Try.runUnderlying205, rfl, rfl, rfl, _, by decide, Try.sizeOf120⟩
instance : TyField Try.prog 205 1 1 4 := ⟨_, _, Try.runUnderlying205, rfl, rfl, rfl, _, by decide, Try.sizeOf4⟩
instance : TyPlaces Try.prog 205 [(0, 1), (1, 1)] := ⟨_, Try.runUnderlying205, fun w => by simp [Try.sizeOf120, Try.sizeOf4]⟩
instance : TyAgg Try.prog 211 false := ⟨Try.isAgg211⟩
instance : TySize Try.prog 211 1 := ⟨Try.sizeOf211⟩
instance : TyZero Try.prog 211 (Value.int IntKind.u64 0) := ⟨Try.zeroValue211⟩
instance : TyElem Try.prog 211 (Value.int IntKind.u64 0) 1 8 := ⟨by kernel_rfl⟩
instance : TyDesc Try.prog 211 (TypeDesc.int IntKind.u64) := ⟨Try.runUnderlying211⟩
instance : TyAgg Try.prog 215 false := ⟨Try.isAgg215⟩
instance : TySize Try.prog 215 1 := ⟨Try.sizeOf215⟩
instance : TyZero Try.prog 215 (Value.pointer none) := ⟨Try.zeroValue215⟩
instance : TyElem Try.prog 215 (Value.pointer none) 1 8 := ⟨by kernel_rfl⟩
instance : TyDesc Try.prog 215 (TypeDesc.pointer 3) := ⟨Try.runUnderlying215⟩
instance : TyAgg Try.prog 224 false := ⟨Try.isAgg224⟩
instance : TySize Try.prog 224 1 := ⟨Try.sizeOf224⟩
instance : TyZero Try.prog 224 Value.nilFunc := ⟨Try.zeroValue224⟩
instance : TyElem Try.prog 224 Value.nilFunc 1 8 := ⟨by kernel_rfl⟩
instance : TyDesc Try.prog 224 (TypeDesc.func #[120] #[190, 3, 36] false) := ⟨Try.runUnderlying224⟩
instance : TyAgg Try.prog 231 false := ⟨Try.isAgg231⟩
instance : TySize Try.prog 231 1 := ⟨Try.sizeOf231⟩
instance : TyZero Try.prog 231 (Value.pointer none) := ⟨Try.zeroValue231⟩
instance : TyElem Try.prog 231 (Value.pointer none) 1 8 := ⟨by kernel_rfl⟩
instance : TyDesc Try.prog 231 (TypeDesc.pointer 211) := ⟨Try.runUnderlying231⟩
instance : TyAgg Try.prog 238 false := ⟨Try.isAgg238⟩
instance : TySize Try.prog 238 1 := ⟨Try.sizeOf238⟩
instance : TyZero Try.prog 238 Value.nilFunc := ⟨Try.zeroValue238⟩
instance : TyElem Try.prog 238 Value.nilFunc 1 8 := ⟨by kernel_rfl⟩
instance : TyDesc Try.prog 238 (TypeDesc.func #[120] #[9, 3, 36] false) := ⟨Try.runUnderlying238⟩
instance : IsCall Try.prog 3 := ⟨Try.call3⟩
instance : IsCall Try.prog 4 := ⟨Try.call4⟩
instance : IsCall Try.prog 5 := ⟨Try.call5⟩
instance : IsCall Try.prog 6 := ⟨Try.call6⟩
instance : IsCall Try.prog 7 := ⟨Try.call7⟩
instance : IsCall Try.prog 8 := ⟨Try.call8⟩
instance : IsCall Try.prog 9 := ⟨Try.call9⟩
instance : IsCall Try.prog 10 := ⟨Try.call10⟩
instance : IsCall Try.prog 11 := ⟨Try.call11⟩
instance : IsCall Try.prog 12 := ⟨Try.call12⟩
instance : IsCall Try.prog 13 := ⟨Try.call13⟩
instance : IsCall Try.prog 14 := ⟨Try.call14⟩
instance : IsCall Try.prog 15 := ⟨Try.call15⟩
instance : IsCall Try.prog 16 := ⟨Try.call16⟩
instance : IsCall Try.prog 17 := ⟨Try.call17⟩
instance : IsCall Try.prog 18 := ⟨Try.call18⟩
instance : IsCall Try.prog 19 := ⟨Try.call19⟩
instance : IsCall Try.prog 20 := ⟨Try.call20⟩
instance : IsCall Try.prog 21 := ⟨Try.call21⟩
instance : IsCall Try.prog 22 := ⟨Try.call22⟩
instance : IsCall Try.prog 23 := ⟨Try.call23⟩
instance : IsCall Try.prog 24 := ⟨Try.call24⟩
instance : IsCall Try.prog 25 := ⟨Try.call25⟩
instance : IsCall Try.prog 26 := ⟨Try.call26⟩
instance : IsCall Try.prog 27 := ⟨Try.call27⟩
instance : IsCall Try.prog 28 := ⟨Try.call28⟩
instance : IsCall Try.prog 29 := ⟨Try.call29⟩
instance : IsCall Try.prog 30 := ⟨Try.call30⟩
instance : IsCall Try.prog 31 := ⟨Try.call31⟩
instance : IsCall Try.prog 32 := ⟨Try.call32⟩
instance : IsCall Try.prog 33 := ⟨Try.call33⟩
instance : IsCall Try.prog 34 := ⟨Try.call34⟩
instance : IsCall Try.prog 35 := ⟨Try.call35⟩
instance : IsCall Try.prog 36 := ⟨Try.call36⟩
instance : IsCall Try.prog 37 := ⟨Try.call37⟩
instance : IsCall Try.prog 38 := ⟨Try.call38⟩
instance : IsCall Try.prog 39 := ⟨Try.call39⟩
instance : IsCall Try.prog 40 := ⟨Try.call40⟩
instance : IsCall Try.prog 41 := ⟨Try.call41⟩
instance : IsCall Try.prog 42 := ⟨Try.call42⟩
instance : IsCall Try.prog 43 := ⟨Try.call43⟩
instance : IsCall Try.prog 44 := ⟨Try.call44⟩
instance : IsCall Try.prog 45 := ⟨Try.call45⟩
instance : IsCall Try.prog 46 := ⟨Try.call46⟩
instance : IsCall Try.prog 47 := ⟨Try.call47⟩
instance : IsCall Try.prog 48 := ⟨Try.call48⟩
instance : IsCall Try.prog 49 := ⟨Try.call49⟩
instance : IsCall Try.prog 50 := ⟨Try.call50⟩
instance : IsCall Try.prog 51 := ⟨Try.call51⟩
instance : IsCall Try.prog 52 := ⟨Try.call52⟩
instance : IsCall Try.prog 53 := ⟨Try.call53⟩
instance : IsCall Try.prog 54 := ⟨Try.call54⟩
instance : IsCall Try.prog 55 := ⟨Try.call55⟩
instance : IsCall Try.prog 56 := ⟨Try.call56⟩
instance : IsCall Try.prog 57 := ⟨Try.call57⟩
instance : IsCall Try.prog 58 := ⟨Try.call58⟩
instance : IsCall Try.prog 59 := ⟨Try.call59⟩
instance : IsCall Try.prog 60 := ⟨Try.call60⟩
instance : IsCall Try.prog 61 := ⟨Try.call61⟩
instance : IsCall Try.prog 62 := ⟨Try.call62⟩
instance : IsCall Try.prog 63 := ⟨Try.call63⟩
instance : IsCall Try.prog 64 := ⟨Try.call64⟩
instance : IsCall Try.prog 65 := ⟨Try.call65⟩
instance : IsCall Try.prog 66 := ⟨Try.call66⟩
instance : IsCall Try.prog 67 := ⟨Try.call67⟩
instance : IsCall Try.prog 68 := ⟨Try.call68⟩
instance : IsCall Try.prog 69 := ⟨Try.call69⟩
instance : IsCall Try.prog 70 := ⟨Try.call70⟩
instance : IsCall Try.prog 71 := ⟨Try.call71⟩
instance : IsCall Try.prog 72 := ⟨Try.call72⟩
instance : IsCall Try.prog 73 := ⟨Try.call73⟩
instance : IsCall Try.prog 74 := ⟨Try.call74⟩
instance : IsCall Try.prog 75 := ⟨Try.call75⟩
instance : IsCall Try.prog 76 := ⟨Try.call76⟩
instance : IsCall Try.prog 77 := ⟨Try.call77⟩
instance : IsCall Try.prog 78 := ⟨Try.call78⟩
instance : IsCall Try.prog 79 := ⟨Try.call79⟩
instance : IsCall Try.prog 80 := ⟨Try.call80⟩
instance : IsCall Try.prog 81 := ⟨Try.call81⟩
instance : IsCall Try.prog 82 := ⟨Try.call82⟩
instance : IsCall Try.prog 83 := ⟨Try.call83⟩
instance : IsCall Try.prog 84 := ⟨Try.call84⟩
instance : IsCall Try.prog 85 := ⟨Try.call85⟩
instance : IsCall Try.prog 86 := ⟨Try.call86⟩
instance : IsCall Try.prog 87 := ⟨Try.call87⟩
instance : IsCall Try.prog 88 := ⟨Try.call88⟩
instance : IsCall Try.prog 89 := ⟨Try.call89⟩
instance : IsCall Try.prog 90 := ⟨Try.call90⟩
instance : IsCall Try.prog 91 := ⟨Try.call91⟩
instance : IsCall Try.prog 92 := ⟨Try.call92⟩
instance : IsCall Try.prog 93 := ⟨Try.call93⟩
instance : IsCall Try.prog 94 := ⟨Try.call94⟩
instance : IsCall Try.prog 95 := ⟨Try.call95⟩
instance : IsCall Try.prog 96 := ⟨Try.call96⟩
instance : IsCall Try.prog 97 := ⟨Try.call97⟩
instance : IsCall Try.prog 98 := ⟨Try.call98⟩
instance : IsCall Try.prog 99 := ⟨Try.call99⟩
instance : IsCall Try.prog 100 := ⟨Try.call100⟩
instance : IsCall Try.prog 101 := ⟨Try.call101⟩
instance : IsCall Try.prog 102 := ⟨Try.call102⟩
instance : IsCall Try.prog 103 := ⟨Try.call103⟩
instance : IsCall Try.prog 104 := ⟨Try.call104⟩
instance : IsCall Try.prog 106 := ⟨Try.call106⟩
instance : IsCall Try.prog 107 := ⟨Try.call107⟩
instance : IsCall Try.prog 108 := ⟨Try.call108⟩
instance : IsCall Try.prog 109 := ⟨Try.call109⟩
instance : IsCall Try.prog 110 := ⟨Try.call110⟩
instance : IsCall Try.prog 111 := ⟨Try.call111⟩
instance : IsCall Try.prog 112 := ⟨Try.call112⟩
instance : IsCall Try.prog 113 := ⟨Try.call113⟩
instance : IsCall Try.prog 114 := ⟨Try.call114⟩
instance : IsCall Try.prog 115 := ⟨Try.call115⟩
instance : IsCall Try.prog 116 := ⟨Try.call116⟩
instance : IsCall Try.prog 117 := ⟨Try.call117⟩
instance : IsCall Try.prog 118 := ⟨Try.call118⟩
instance : IsCall Try.prog 119 := ⟨Try.call119⟩
instance : IsCall Try.prog 120 := ⟨Try.call120⟩
instance : IsCall Try.prog 121 := ⟨Try.call121⟩
instance : IsCall Try.prog 122 := ⟨Try.call122⟩
instance : IsCall Try.prog 123 := ⟨Try.call123⟩
instance : IsCall Try.prog 124 := ⟨Try.call124⟩
instance : IsCall Try.prog 125 := ⟨Try.call125⟩
instance : IsCall Try.prog 126 := ⟨Try.call126⟩
instance : IsCall Try.prog 127 := ⟨Try.call127⟩
instance : IsCall Try.prog 128 := ⟨Try.call128⟩
instance : IsCall Try.prog 129 := ⟨Try.call129⟩
instance : IsCall Try.prog 130 := ⟨Try.call130⟩
instance : IsCall Try.prog 131 := ⟨Try.call131⟩
instance : IsCall Try.prog 132 := ⟨Try.call132⟩
instance : IsCall Try.prog 133 := ⟨Try.call133⟩
instance : IsCall Try.prog 134 := ⟨Try.call134⟩
instance : IsCall Try.prog 135 := ⟨Try.call135⟩
instance : IsCall Try.prog 136 := ⟨Try.call136⟩
instance : IsCall Try.prog 137 := ⟨Try.call137⟩
instance : IsCall Try.prog 138 := ⟨Try.call138⟩
instance : IsCall Try.prog 139 := ⟨Try.call139⟩
instance : IsCall Try.prog 140 := ⟨Try.call140⟩
instance : IsCall Try.prog 141 := ⟨Try.call141⟩
instance : IsCall Try.prog 142 := ⟨Try.call142⟩
instance : IsCall Try.prog 143 := ⟨Try.call143⟩
instance : IsCall Try.prog 144 := ⟨Try.call144⟩
instance : IsCall Try.prog 145 := ⟨Try.call145⟩
instance : IsCall Try.prog 146 := ⟨Try.call146⟩
instance : IsCall Try.prog 147 := ⟨Try.call147⟩
instance : IsCall Try.prog 148 := ⟨Try.call148⟩
instance : IsCall Try.prog 149 := ⟨Try.call149⟩
instance : IsCall Try.prog 150 := ⟨Try.call150⟩
instance : IsCall Try.prog 151 := ⟨Try.call151⟩
instance : IsCall Try.prog 152 := ⟨Try.call152⟩
instance : IsCall Try.prog 153 := ⟨Try.call153⟩
instance : IsCall Try.prog 154 := ⟨Try.call154⟩
instance : IsCall Try.prog 155 := ⟨Try.call155⟩
instance : IsCall Try.prog 156 := ⟨Try.call156⟩
instance : IsCall Try.prog 157 := ⟨Try.call157⟩
instance : IsCall Try.prog 158 := ⟨Try.call158⟩
instance : IsCall Try.prog 159 := ⟨Try.call159⟩
instance : IsCall Try.prog 160 := ⟨Try.call160⟩
instance : IsCall Try.prog 161 := ⟨Try.call161⟩
instance : IsCall Try.prog 162 := ⟨Try.call162⟩
instance : IsCall Try.prog 163 := ⟨Try.call163⟩
instance : IsCall Try.prog 164 := ⟨Try.call164⟩
instance : IsCall Try.prog 165 := ⟨Try.call165⟩
instance : IsCall Try.prog 166 := ⟨Try.call166⟩
instance : IsCall Try.prog 167 := ⟨Try.call167⟩
instance : IsCall Try.prog 168 := ⟨Try.call168⟩
instance : IsCall Try.prog 169 := ⟨Try.call169⟩
instance : IsCall Try.prog 170 := ⟨Try.call170⟩
instance : IsCall Try.prog 171 := ⟨Try.call171⟩
instance : IsCall Try.prog 172 := ⟨Try.call172⟩
instance : IsCall Try.prog 173 := ⟨Try.call173⟩
instance : IsCall Try.prog 174 := ⟨Try.call174⟩
instance : IsCall Try.prog 175 := ⟨Try.call175⟩
instance : IsCall Try.prog 176 := ⟨Try.call176⟩
instance : IsCall Try.prog 177 := ⟨Try.call177⟩
instance : IsCall Try.prog 178 := ⟨Try.call178⟩
instance : IsCall Try.prog 179 := ⟨Try.call179⟩
instance : IsCall Try.prog 180 := ⟨Try.call180⟩
end Go.SL
set_option linter.unusedVariables false
set_option linter.unusedSimpArgs false
namespace Go.SL
open Go Go.Proofs

instance intInDec (k : IntKind) (x : Int) : Decidable (intIn k x) := by unfold intIn; exact inferInstance
/-! ### Votes in memory -/
def vc (bs : List Bool) (n : Int) : List Value := bs.map Value.bool ++ [.int .i64 n]
abbrev votes (b : Nat) (bs : List Bool) (n : Int) : HP := cells b (vc bs n) 154
theorem vc_nodes {bs : List Bool} {n : Int} (h : bs.length = 7) : cellN (vc bs n) (0 + 7) = some (.int .i64 n) := cellN_of (by simp [vc, h])
theorem vc_at {bs : List Bool} {n : Int} {j : Nat} {u : Bool} (h : bs[j]? = some u) : cellN (vc bs n) (0 + 0 + j * 1) = some (.bool u) := cellN_of (by
  have hj := (List.getElem?_eq_some_iff.1 h).1
  rw [vc, List.getElem?_append_left (by simpa using hj)]
  simp [h])
theorem vc_set {bs : List Bool} {n : Int} {j : Nat} (hj : j < bs.length) : setN (0 + 0 + j * 1) (vc bs n) [.bool true] = some (vc (bs.set j true) n) := by
  rw [setN_one (by simp [vc]; omega)]
  simp only [Nat.zero_add, Nat.mul_one, vc]
  rw [List.set_append_left _ _ (by simpa using hj), List.map_set]
theorem vc_cut {bs : List Bool} {n : Int} (h : bs.length = 7) : cutN (0 + 0) 7 (vc bs n) = some (bs.map Value.bool) := by
  have := takeN_app (bs.map Value.bool) [.int .i64 n]
  rw [List.length_map, h] at this
  simpa [cutN, vc] using this
/-- There is such a node. -/
def isV (n node : Int) : Prop := 0 ≤ node ∧ node < n
instance (n node : Int) : Decidable (isV n node) := by unfold isV; exact inferInstance
/-- It voted. -/
def hasV (bs : List Bool) (n node : Int) : Prop := isV n node ∧ bs[node.toNat]? = some true
instance (bs : List Bool) (n node : Int) : Decidable (hasV bs n node) := by unfold hasV; exact inferInstance
def addV (bs : List Bool) (n node : Int) : List Bool := if isV n node then bs.set node.toNat true else bs

theorem set_self {α : Type} {l : List α} {i : Nat} {u : α} (h : l[i]? = some u) : l.set i u = l := by
  apply List.ext_getElem?
  intro j
  rw [List.getElem?_set]
  split
  · rename_i e; subst e
    rw [h, if_pos (List.getElem?_eq_some_iff.1 h).1]
  · rfl
theorem quorum_spec (n : Int) (hn : intIn .i64 n) (L : List HP) : Fn Try.prog 59 #[.int .i64 n] L (fun v L' => v = .int .i64 (if n < 1 ∨ n > 7 then 0 else n / 2 + 1) ∧ L' = L) := by
  refine Fn_enter Try.func59 rfl rfl rfl rfl ?_
  refine T_region ?_
  refine TL_y rfl rfl (Y_assign rfl) ?_
  refine TL_nil ?_
  refine T_seq ?_
  refine T_region ?_
  refine TL_y rfl rfl (Y_move rfl) ?_
  refine TL_y rfl rfl (Y_lt rfl rfl) ?_
  refine TL_y rfl rfl (Y_move rfl) ?_
  refine TL_splitd 5 rfl (fun h5 => ?_) (fun h5 => ?_)
  · refine TL_gskip rfl rfl rfl rfl ?_
    refine TL_gskip rfl rfl rfl rfl ?_
    refine TL_y rfl rfl (Y_pick_t rfl rfl) ?_
    refine TL_nil ?_
    refine T_cond_true rfl ?_
    refine T_region ?_
    refine TL_y rfl rfl (Y_assign rfl) ?_
    refine TL_nil ?_
    refine T_ret ?_
    refine thenS_ret ?_
    exact RetG_1 (.inl rfl) rfl (ResV.tmp rfl) GivesTo.g (⟨by rw [if_pos (by omega)], rfl⟩)
  · refine TL_grun rfl rfl ?_
    refine TL_y rfl rfl (Y_move rfl) ?_
    refine TL_grun rfl rfl ?_
    refine TL_y rfl rfl (Y_gt rfl rfl) ?_
    refine TL_y rfl rfl (Y_pick_f rfl rfl) ?_
    refine TL_nil ?_
    refine T_if rfl (fun h8 => ?_) (fun h8 => ?_)
    · refine T_region ?_
      refine TL_y rfl rfl (Y_assign rfl) ?_
      refine TL_nil ?_
      refine T_ret ?_
      refine thenS_ret ?_
      exact RetG_1 (.inl rfl) rfl (ResV.tmp rfl) GivesTo.g (⟨by rw [if_pos (by omega)], rfl⟩)
    · refine T_skip ?_
      refine thenS_normal ?_
      refine T_region ?_
      refine TL_y rfl rfl (Y_move rfl) ?_
      refine TL_y rfl rfl (Y_quo rfl rfl (by omega)) ?_
      refine TL_y rfl rfl (Y_add rfl rfl (by omega)) ?_
      refine TL_y rfl rfl (Y_assign rfl) ?_
      refine TL_nil ?_
      refine T_ret ?_
      exact RetG_1 (.inl rfl) rfl (ResV.tmp rfl) GivesTo.g (⟨by rw [if_neg (by omega)], rfl⟩)

theorem newVotes_spec (n : Int) (L : List HP) : Fn Try.prog 56 #[.int .i64 n] L (fun v L' => (¬ (1 ≤ n ∧ n ≤ 7) ∧ v = .tuple #[.pointer none, .int .i64 1] ∧ L' = L) ∨ ((1 ≤ n ∧ n ≤ 7) ∧ ∃ b, v = .tuple #[.pointer (some ⟨b, 0, none⟩), .int .i64 0] ∧ L' = votes b (List.replicate 7 false) n :: L)) := by
  refine Fn_enter Try.func56 rfl rfl rfl rfl ?_
  refine T_region ?_
  refine TL_y rfl rfl (Y_assign rfl) ?_
  refine TL_y rfl rfl (Y_assign rfl) ?_
  refine TL_nil ?_
  refine T_seq ?_
  refine T_region ?_
  refine TL_y rfl rfl (Y_move rfl) ?_
  refine TL_y rfl rfl (Y_lt rfl rfl) ?_
  refine TL_y rfl rfl (Y_move rfl) ?_
  refine TL_splitd 6 rfl (fun h6 => ?_) (fun h6 => ?_)
  · refine TL_gskip rfl rfl rfl rfl ?_
    refine TL_gskip rfl rfl rfl rfl ?_
    refine TL_y rfl rfl (Y_pick_t rfl rfl) ?_
    refine TL_nil ?_
    refine T_cond_true rfl ?_
    refine T_region ?_
    refine TL_y rfl rfl (Y_assign rfl) ?_
    refine TL_y rfl rfl (Y_assign rfl) ?_
    refine TL_nil ?_
    refine T_ret ?_
    refine thenS_ret ?_
    exact RetG_2 (.inl rfl) rfl (ResV.tmp rfl) (ResV.tmp rfl) GivesTo.g (.inl ⟨by omega, rfl, rfl⟩)
  · refine TL_grun rfl rfl ?_
    refine TL_y rfl rfl (Y_move rfl) ?_
    refine TL_grun rfl rfl ?_
    refine TL_y rfl rfl (Y_gt rfl rfl) ?_
    refine TL_y rfl rfl (Y_pick_f rfl rfl) ?_
    refine TL_nil ?_
    refine T_if rfl (fun h9 => ?_) (fun h9 => ?_)
    · refine T_region ?_
      refine TL_y rfl rfl (Y_assign rfl) ?_
      refine TL_y rfl rfl (Y_assign rfl) ?_
      refine TL_nil ?_
      refine T_ret ?_
      refine thenS_ret ?_
      exact RetG_2 (.inl rfl) rfl (ResV.tmp rfl) (ResV.tmp rfl) GivesTo.g (.inl ⟨by omega, rfl, rfl⟩)
    · refine T_skip ?_
      refine thenS_normal ?_
      refine T_region ?_
      refine TL_y rfl rfl (Y_move rfl) ?_
      refine TL_y rfl rfl (Y_build rfl rfl) ?_
      refine TL_box rfl rfl rfl ?_
      intro b12
      show TL _ _ _ _ _ ⟨_, _, votes b12 (List.replicate 7 false) n :: L⟩ _
      refine TL_y rfl rfl (Y_assign rfl) ?_
      refine TL_y rfl rfl (Y_assign rfl) ?_
      refine TL_nil ?_
      refine T_ret ?_
      exact RetG_2 (.inl rfl) rfl (ResV.tmp rfl) (ResV.tmp rfl) GivesTo.g (.inr ⟨by omega, b12, rfl, rfl⟩)

theorem is_spec {L : List HP} {b : Nat} {bs : List Bool} {n : Int} (hb : bs.length = 7) (node : Int) : Fn Try.prog 94 #[.pointer (some ⟨b, 0, none⟩), .int .i64 node] (votes b bs n :: L) (fun v L' => v = .bool (decide (isV n node)) ∧ L' = votes b bs n :: L) := by
  refine Fn_enter Try.func94 rfl rfl rfl rfl ?_
  refine T_region ?_
  refine TL_y rfl rfl (Y_assign rfl) ?_
  refine TL_nil ?_
  refine T_region ?_
  refine TL_y rfl rfl (Y_move rfl) ?_
  refine TL_y rfl rfl (Y_unequal rfl rfl (EqIs.ptr_nil)) ?_
  refine TL_name 6 (v' := .bool true) rfl (congrArg Value.bool (by simp)) ?_
  refine TL_y rfl rfl (Y_move rfl) ?_
  refine TL_grun rfl rfl ?_
  refine TL_y rfl rfl (Y_move rfl) ?_
  refine TL_grun rfl rfl ?_
  refine TL_y rfl rfl (Y_ge rfl rfl) ?_
  refine TL_y rfl rfl (Y_pick_t rfl rfl) ?_
  refine TL_y rfl rfl (Y_move rfl) ?_
  refine TL_splitd 11 rfl (fun h11 => ?_) (fun h11 => ?_)
  · refine TL_grun rfl rfl ?_
    refine TL_y rfl rfl (Y_move rfl) ?_
    refine TL_grun rfl rfl ?_
    refine TL_y rfl rfl (Y_move rfl) ?_
    refine TL_grun rfl rfl ?_
    refine TL_y rfl rfl (Y_nil_check rfl) ?_
    refine TL_grun rfl rfl ?_
    refine TL_y rfl rfl (Y_field_addr rfl) ?_
    refine TL_grun rfl rfl ?_
    refine TL_y rfl rfl (Y_load rfl (vc_nodes hb)) ?_
    refine TL_grun rfl rfl ?_
    refine TL_y rfl rfl (Y_lt rfl rfl) ?_
    refine TL_y rfl rfl (Y_pick_t rfl rfl) ?_
    refine TL_y rfl rfl (Y_assign rfl) ?_
    refine TL_nil ?_
    refine T_ret ?_
    exact RetG_1 (.inl rfl) rfl (ResV.tmp rfl) GivesTo.g (⟨by rw [decide_eq_decide.2 (show isV n node ↔ node < n from ⟨fun h => h.2, fun h => ⟨h11, h⟩⟩)], rfl⟩)
  · refine TL_gskip rfl rfl rfl rfl ?_
    refine TL_gskip rfl rfl rfl rfl ?_
    refine TL_gskip rfl rfl rfl rfl ?_
    refine TL_gskip rfl rfl rfl rfl ?_
    refine TL_gskip rfl rfl rfl rfl ?_
    refine TL_gskip rfl rfl rfl rfl ?_
    refine TL_y rfl rfl (Y_pick_f rfl rfl) ?_
    refine TL_y rfl rfl (Y_assign rfl) ?_
    refine TL_nil ?_
    refine T_ret ?_
    exact RetG_1 (.inl rfl) rfl (ResV.tmp rfl) GivesTo.g (⟨by rw [decide_eq_false (fun h : isV n node => h11 h.1)], rfl⟩)
theorem has_spec {L : List HP} {b : Nat} {bs : List Bool} {n : Int} (hb : bs.length = 7) (hn : n ≤ 7) (node : Int) : Fn Try.prog 109 #[.pointer (some ⟨b, 0, none⟩), .int .i64 node] (votes b bs n :: L) (fun v L' => v = .bool (decide (hasV bs n node)) ∧ L' = votes b bs n :: L) := by
  refine Fn_enter Try.func109 rfl rfl rfl rfl ?_
  refine T_region ?_
  refine TL_y rfl rfl (Y_assign rfl) ?_
  refine TL_nil ?_
  refine T_region ?_
  refine TL_y rfl rfl (Y_move rfl) ?_
  refine TL_y rfl rfl (Y_move rfl) ?_
  refine TL_call rfl rfl (is_spec hb node) ?_
  rintro _ _ ⟨rfl, rfl⟩
  refine TL_y rfl rfl (Y_move rfl) ?_
  refine TL_splitd 8 rfl (fun h8 => ?_) (fun h8 => ?_)
  · refine TL_grun rfl rfl ?_
    obtain ⟨j, rfl⟩ : ∃ j : Nat, node = (j : Int) := ⟨node.toNat, by have := h8.1; omega⟩
    have hj : j < 7 := by have := h8.2; omega
    obtain ⟨u, hu⟩ : ∃ u, bs[j]? = some u := ⟨_, List.getElem?_eq_getElem (by omega)⟩
    refine TL_y rfl rfl (Y_move rfl) ?_
    refine TL_grun rfl rfl ?_
    refine TL_y rfl rfl (Y_move rfl) ?_
    refine TL_grun rfl rfl ?_
    refine TL_y rfl rfl (Y_nil_check rfl) ?_
    refine TL_grun rfl rfl ?_
    refine TL_y rfl rfl (Y_field_addr rfl) ?_
    refine TL_grun rfl rfl ?_
    refine TL_y rfl rfl (Y_index_arr rfl rfl hj) ?_
    refine TL_grun rfl rfl ?_
    refine TL_y rfl rfl (Y_load rfl (vc_at hu)) ?_
    refine TL_y rfl rfl (Y_pick_t rfl rfl) ?_
    refine TL_y rfl rfl (Y_assign rfl) ?_
    refine TL_nil ?_
    refine T_ret ?_
    exact RetG_1 (.inl rfl) rfl (ResV.tmp rfl) GivesTo.g (⟨by cases u <;> simp [hasV, h8, hu], rfl⟩)
  · refine TL_gskip rfl rfl rfl rfl ?_
    refine TL_gskip rfl rfl rfl rfl ?_
    refine TL_gskip rfl rfl rfl rfl ?_
    refine TL_gskip rfl rfl rfl rfl ?_
    refine TL_gskip rfl rfl rfl rfl ?_
    refine TL_gskip rfl rfl rfl rfl ?_
    refine TL_y rfl rfl (Y_pick_f rfl rfl) ?_
    refine TL_y rfl rfl (Y_assign rfl) ?_
    refine TL_nil ?_
    refine T_ret ?_
    exact RetG_1 (.inl rfl) rfl (ResV.tmp rfl) GivesTo.g (⟨by rw [decide_eq_false (fun h : hasV bs n node => h8 h.1)], rfl⟩)
theorem add_spec {L : List HP} {b : Nat} {bs : List Bool} {n : Int} (hb : bs.length = 7) (hn : n ≤ 7) (node : Int) : Fn Try.prog 57 #[.pointer (some ⟨b, 0, none⟩), .int .i64 node] (votes b bs n :: L) (fun v L' => v = .bool (decide (isV n node ∧ ¬ hasV bs n node)) ∧ L' = votes b (addV bs n node) n :: L) := by
  refine Fn_enter Try.func57 rfl rfl rfl rfl ?_
  refine T_region ?_
  refine TL_y rfl rfl (Y_assign rfl) ?_
  refine TL_nil ?_
  refine T_seq ?_
  refine T_region ?_
  refine TL_y rfl rfl (Y_move rfl) ?_
  refine TL_y rfl rfl (Y_move rfl) ?_
  refine TL_call rfl rfl (is_spec hb node) ?_
  rintro _ _ ⟨rfl, rfl⟩
  refine TL_y rfl rfl (Y_not_d rfl) ?_
  refine TL_y rfl rfl (Y_move rfl) ?_
  refine TL_splitd 9 rfl (fun h9 => ?_) (fun h9 => ?_)
  · refine TL_gskip rfl rfl rfl rfl ?_
    refine TL_gskip rfl rfl rfl rfl ?_
    refine TL_gskip rfl rfl rfl rfl ?_
    refine TL_gskip rfl rfl rfl rfl ?_
    refine TL_gskip rfl rfl rfl rfl ?_
    refine TL_gskip rfl rfl rfl rfl ?_
    refine TL_y rfl rfl (Y_pick_t rfl rfl) ?_
    refine TL_nil ?_
    refine T_cond_true rfl ?_
    refine T_region ?_
    refine TL_y rfl rfl (Y_assign rfl) ?_
    refine TL_nil ?_
    refine T_ret ?_
    refine thenS_ret ?_
    exact RetG_1 (.inl rfl) rfl (ResV.tmp rfl) GivesTo.g (⟨by rw [decide_eq_false (fun h => h9 h.1)], by rw [addV, if_neg h9]⟩)
  · refine TL_grun rfl rfl ?_
    have h9' := Classical.not_not.1 h9
    obtain ⟨j, rfl⟩ : ∃ j : Nat, node = (j : Int) := ⟨node.toNat, by have := h9'.1; omega⟩
    have hj : j < 7 := by have := h9'.2; omega
    obtain ⟨u, hu⟩ : ∃ u, bs[j]? = some u := ⟨_, List.getElem?_eq_getElem (by omega)⟩
    refine TL_y rfl rfl (Y_move rfl) ?_
    refine TL_grun rfl rfl ?_
    refine TL_y rfl rfl (Y_move rfl) ?_
    refine TL_grun rfl rfl ?_
    refine TL_y rfl rfl (Y_nil_check rfl) ?_
    refine TL_grun rfl rfl ?_
    refine TL_y rfl rfl (Y_field_addr rfl) ?_
    refine TL_grun rfl rfl ?_
    refine TL_y rfl rfl (Y_index_arr rfl rfl hj) ?_
    refine TL_grun rfl rfl ?_
    refine TL_y rfl rfl (Y_load rfl (vc_at hu)) ?_
    refine TL_y rfl rfl (Y_pick_f rfl rfl) ?_
    refine TL_nil ?_
    refine T_cond rfl (fun h16 => ?_) (fun h16 => ?_)
    · subst h16
      refine T_region ?_
      refine TL_y rfl rfl (Y_assign rfl) ?_
      refine TL_nil ?_
      refine T_ret ?_
      refine thenS_ret ?_
      exact RetG_1 (.inl rfl) rfl (ResV.tmp rfl) GivesTo.g (⟨by rw [decide_eq_false (fun h => h.2 ⟨h9', by simpa using hu⟩)], by rw [addV, if_pos h9', Int.toNat_natCast, set_self hu]⟩)
    · subst h16
      refine T_skip ?_
      refine thenS_normal ?_
      refine T_region ?_
      refine TL_y rfl rfl (Y_move rfl) ?_
      refine TL_y rfl rfl (Y_move rfl) ?_
      refine TL_y rfl rfl (Y_nil_check rfl) ?_
      refine TL_y rfl rfl (Y_field_addr rfl) ?_
      refine TL_y rfl rfl (Y_index_arr rfl rfl hj) ?_
      refine TL_store rfl rfl rfl rfl rfl (vc_set (by omega)) ?_
      refine TL_nil ?_
      refine T_region ?_
      refine TL_y rfl rfl (Y_assign rfl) ?_
      refine TL_nil ?_
      refine T_ret ?_
      exact RetG_1 (.inl rfl) rfl (ResV.tmp rfl) GivesTo.g (⟨by rw [decide_eq_true ⟨h9', fun h => by have := h.2; simp [hu] at this⟩], by rw [addV, if_pos h9', Int.toNat_natCast]⟩)
end Go.SL
set_option linter.unusedVariables false
set_option linter.unusedSimpArgs false
namespace Go.SL
open Go Go.Proofs

def allTo (bs : List Bool) (n : Int) (k : Nat) : List Int := ((List.range k).filter fun i : Nat => decide (hasV bs n (i : Int))).map fun i : Nat => (i : Int)
theorem allTo_succ (bs : List Bool) (n : Int) (k : Nat) : allTo bs n (k + 1) = allTo bs n k ++ (if hasV bs n (k : Int) then [(k : Int)] else []) := by
  simp only [allTo, List.range_succ, List.filter_append, List.map_append]
  congr 1
  by_cases h : hasV bs n (k : Int) <;> simp [h]
theorem allTo_len (bs : List Bool) (n : Int) (k : Nat) : (allTo bs n k).length ≤ k := by
  have := List.length_filter_le (fun i : Nat => decide (hasV bs n (i : Int))) (List.range k)
  simpa [allTo] using this
/-- The nodes that voted. -/
def allV (bs : List Bool) (n : Int) : List Int := allTo bs n 7
theorem allV_none (n : Int) : allV (List.replicate 7 false) n = [] := by
  simp only [allV, allTo, List.map_eq_nil_iff, List.filter_eq_nil_iff]
  intro i hi h
  have := (of_decide_eq_true h).2
  rw [List.getElem?_replicate] at this
  split at this <;> simp at this

theorem all_spec {L : List HP} {b : Nat} {bs : List Bool} {n : Int} (hb : bs.length = 7) (hn : n ≤ 7) : Fn Try.prog 126 #[.pointer (some ⟨b, 0, none⟩)] (votes b bs n :: L) (fun v L' => ∃ A c, v = .slice A (allV bs n).length c ∧ L' = osl (intR .i64) 3 A c (allV bs n) :: votes b bs n :: L) := by
  refine Fn_enter Try.func126 rfl rfl rfl rfl ?_
  refine T_region ?_
  refine TL_y rfl rfl (Y_assign rfl) ?_
  refine TL_nil ?_
  refine T_region ?_
  refine TL_y rfl rfl (Y_assign rfl) ?_
  refine TL_nil ?_
  refine T_seq ?_
  refine T_region ?_
  refine TL_y rfl rfl (Y_move rfl) ?_
  refine TL_nil ?_
  refine T_block ?_
  refine T_loopK (σ := Nat × Option Addr × Nat) [0] (fun p => p.1 ≤ 7) (fun p kv => (5, .int .i64 (p.1 : Int)) :: (3, .slice p.2.1 (allTo bs n p.1).length p.2.2) :: kv) (fun p => osl (intR .i64) 3 p.2.1 p.2.2 (allTo bs n p.1) :: votes b bs n :: L) (fun p => 7 - p.1) ((0, none, 0)) rfl (Nat.zero_le _) (osl_nil _ _ _ _) (sub_cons rfl (sub_cons rfl (sub_cons rfl (sub_nil)))) ?_
  rintro ⟨i, A, c⟩ hi
  dsimp only at hi ⊢
  have hal := allTo_len bs n i
  have hsu := allTo_succ bs n i
  refine T_region ?_
  refine TL_y rfl rfl (Y_lt rfl rfl) ?_
  refine TL_nil ?_
  refine T_seq ?_
  refine T_if rfl (fun h6 => ?_) (fun h6 => ?_)
  · refine T_skip ?_
    refine thenS_normal ?_
    refine T_seq ?_
    refine T_block ?_
    refine T_region ?_
    refine TL_y rfl rfl (Y_move rfl) ?_
    refine TL_y rfl rfl (Y_assign rfl) ?_
    refine TL_nil ?_
    refine T_region ?_
    refine TL_y rfl rfl (Y_move rfl) ?_
    refine TL_y rfl rfl (Y_move rfl) ?_
    refine TL_pullc b ?_
    refine TL_call rfl rfl (has_spec hb hn (i : Int)) ?_
    rintro _ _ ⟨rfl, rfl⟩
    refine TL_nil ?_
    refine T_if rfl (fun h10 => ?_) (fun h10 => ?_)
    · refine T_region_last ?_
      refine TL_y rfl rfl (Y_move rfl) ?_
      refine TL_y rfl rfl (Y_move rfl) ?_
      refine TL_build_slice rfl rfl rfl rfl rfl rfl ?_
      intro b13
      refine TL_osl (k := 1) (intR .i64) [(i : Int)] (Knows.const fun M => cells_ints (k := .i64) (xs := [(i : Int)]) (by simpa using i64In_mk (by omega)) M) rfl (by simp) ?_
      refine TL_freeze_osl ?_
      refine TL_name 13 (v' := .slice (some ⟨b13, 0, none⟩) [(i : Int)].length 1) rfl rfl ?_
      refine TL_append rfl rfl rfl rfl rfl slk (by (try simp only [List.length_append, List.length_cons, List.length_nil]); omega) ?_
      intro A14 c14
      rw [show allTo bs n i ++ [(i : Int)] = allTo bs n (i + 1) by rw [hsu, if_pos h10]]
      refine TL_y rfl rfl (Y_assign rfl) ?_
      refine TL_nil ?_
      refine inB_normal ?_
      refine thenS_normal ?_
      refine T_region_last ?_
      refine TL_y rfl rfl (Y_add rfl rfl (by omega)) ?_
      refine TL_name 15 (v' := .int .i64 ((i + 1 : Nat) : Int)) rfl (rfl) ?_
      refine TL_y rfl rfl (Y_move rfl) ?_
      refine TL_nil ?_
      refine thenS_normal ?_
      exact ⟨(i + 1, A14, c14), (by simp only; omega), by simp only; omega, holds_to (sub_cons rfl (sub_cons rfl (sub_cons rfl (sub_nil)))) GivesTo.g⟩
    · refine T_skip ?_
      refine inB_normal ?_
      refine thenS_normal ?_
      refine T_region_last ?_
      refine TL_y rfl rfl (Y_add rfl rfl (by omega)) ?_
      refine TL_name 15 (v' := .int .i64 ((i + 1 : Nat) : Int)) rfl (rfl) ?_
      refine TL_y rfl rfl (Y_move rfl) ?_
      refine TL_nil ?_
      refine thenS_normal ?_
      rw [show allTo bs n i = allTo bs n (i + 1) by rw [hsu, if_neg h10]; simp]
      exact ⟨(i + 1, A, c), (by simp only; omega), by simp only; omega, holds_to (sub_cons rfl (sub_cons rfl (sub_cons rfl (sub_nil)))) GivesTo.g⟩
  · refine T_exit ?_
    refine thenS_exit ?_
    refine thenS_exit ?_
    refine inB_hit ?_
    refine thenS_normal ?_
    refine T_region ?_
    refine TL_y rfl rfl (Y_move rfl) ?_
    refine TL_y rfl rfl (Y_assign rfl) ?_
    refine TL_nil ?_
    refine T_ret ?_
    obtain rfl : i = 7 := by omega
    rw [show allTo bs n 7 = allV bs n from rfl]
    exact RetG_1 (.inl rfl) rfl (ResV.tmp rfl) GivesTo.g (⟨A, c, rfl, rfl⟩)
theorem count_spec {L : List HP} {b : Nat} {bs : List Bool} {n : Int} (hb : bs.length = 7) (hn : n ≤ 7) : Fn Try.prog 95 #[.pointer (some ⟨b, 0, none⟩)] (votes b bs n :: L) (fun v L' => v = .int .i64 ((allV bs n).length : Int) ∧ L' = votes b bs n :: L) := by
  refine Fn_enter Try.func95 rfl rfl rfl rfl ?_
  refine T_region ?_
  refine TL_y rfl rfl (Y_assign rfl) ?_
  refine TL_nil ?_
  refine T_seq ?_
  refine T_region ?_
  refine TL_y rfl rfl (Y_move rfl) ?_
  refine TL_y rfl rfl (Y_equal rfl rfl (EqIs.ptr_nil)) ?_
  refine TL_name 4 (v' := .bool false) rfl (congrArg Value.bool (by simp)) ?_
  refine TL_y rfl rfl (Y_move rfl) ?_
  refine TL_grun rfl rfl ?_
  refine TL_y rfl rfl (Y_move rfl) ?_
  refine TL_grun rfl rfl ?_
  refine TL_y rfl rfl (Y_nil_check rfl) ?_
  refine TL_grun rfl rfl ?_
  refine TL_y rfl rfl (Y_field_addr rfl) ?_
  refine TL_grun rfl rfl ?_
  refine TL_y rfl rfl (Y_load_agg rfl (vc_cut hb)) ?_
  refine TL_grun rfl rfl ?_
  refine TL_y rfl rfl (Y_build_arr rfl rfl) ?_
  refine TL_name 10 (v' := .agg ((List.replicate 7 false).map Value.bool).toArray) rfl (rfl) ?_
  refine TL_grun rfl rfl ?_
  refine TL_y rfl rfl (Y_eq_bools (by kernel_rfl) rfl rfl hb rfl) ?_
  refine TL_y rfl rfl (Y_pick_f rfl rfl) ?_
  refine TL_nil ?_
  refine T_if rfl (fun h12 => ?_) (fun h12 => ?_)
  · refine T_region ?_
    refine TL_y rfl rfl (Y_assign rfl) ?_
    refine TL_nil ?_
    refine T_ret ?_
    refine thenS_ret ?_
    exact RetG_1 (.inl rfl) rfl (ResV.tmp rfl) GivesTo.g (⟨by rw [h12, allV_none]; rfl, rfl⟩)
  · refine T_skip ?_
    refine thenS_normal ?_
    refine T_region ?_
    refine TL_y rfl rfl (Y_move rfl) ?_
    refine TL_call rfl rfl (all_spec hb hn) ?_
    rintro _ _ ⟨A14, c14, rfl, rfl⟩
    refine TL_y rfl rfl (Y_len rfl) ?_
    refine TL_y rfl rfl (Y_assign rfl) ?_
    refine TL_nil ?_
    refine T_ret ?_
    exact RetG_1 (.inl rfl) rfl (ResV.tmp rfl) GivesTo.g (⟨rfl, rfl⟩)
theorem enough_spec {L : List HP} {b : Nat} {bs : List Bool} {n : Int} (hb : bs.length = 7) (hn : 1 ≤ n ∧ n ≤ 7) : Fn Try.prog 58 #[.pointer (some ⟨b, 0, none⟩)] (votes b bs n :: L) (fun v L' => v = .bool (decide (n / 2 + 1 ≤ ((allV bs n).length : Int))) ∧ L' = votes b bs n :: L) := by
  refine Fn_enter Try.func58 rfl rfl rfl rfl ?_
  refine T_region ?_
  refine TL_y rfl rfl (Y_assign rfl) ?_
  refine TL_nil ?_
  refine T_region_draw _ [0, 1, 3, 7, 15, 31, 63, 127, 255, 511, 1023, 2047, 1023, 5119, 13311, 29695, 65535, 131071, 262143, 524287] [] [(0, true), (1, true), (2, true), (3, true), (4, true), (5, true), (6, true), (7, true), (8, true), (9, true), (10, true), (12, true), (13, true), (14, true), (15, true), (11, false), (16, false), (17, true), (18, true), (19, true)] (by kernel_rfl) (by decide +kernel) (Gives.refl _) ?_
  refine TF_y rfl rfl (Y_move rfl) ?_
  refine TF_y rfl rfl (Y_unequal rfl rfl (EqIs.ptr_nil)) ?_
  refine TF_name 4 (v' := .bool true) rfl (congrArg Value.bool (by simp)) ?_
  refine TF_y rfl rfl (Y_move rfl) ?_
  refine TF_gy rfl rfl rfl rfl (Y_move rfl) ?_
  refine TF_gy rfl rfl rfl rfl (Y_nil_check rfl) ?_
  refine TF_gy rfl rfl rfl rfl (Y_field_addr rfl) ?_
  refine TF_gy rfl rfl rfl rfl (Y_load rfl (vc_nodes hb)) ?_
  refine TF_gy rfl rfl rfl rfl (Y_gt rfl rfl) ?_
  refine TF_name 10 (v' := .bool true) rfl (congrArg Value.bool (decide_eq_true (by omega))) ?_
  refine TF_y rfl rfl (Y_pick_t rfl rfl) ?_
  refine TF_y rfl rfl (Y_move rfl) ?_
  refine TF_gy rfl rfl rfl rfl (Y_move rfl) ?_
  refine TF_gy rfl rfl rfl rfl (Y_move rfl) ?_
  refine TF_gy rfl rfl rfl rfl (Y_nil_check rfl) ?_
  refine TF_gy rfl rfl rfl rfl (Y_field_addr rfl) ?_
  refine TF_gy rfl rfl rfl rfl (Y_load rfl (vc_nodes hb)) ?_
  refine TF_anchor rfl ?_
  refine TL_grun rfl rfl ?_
  refine TL_call rfl rfl (count_spec hb hn.2) ?_
  rintro _ _ ⟨rfl, rfl⟩
  refine TF_end GivesTo.g ?_
  refine TF_anchor rfl ?_
  refine TL_grun rfl rfl ?_
  refine TL_call rfl rfl (quorum_spec n (i64In_mk (by omega)) _) ?_
  rintro _ _ ⟨rfl, rfl⟩
  refine TL_name 19 (v' := .int .i64 (n / 2 + 1)) rfl (by rw [if_neg (by omega)]) ?_
  refine TF_end GivesTo.g ?_
  refine TF_gy rfl rfl rfl rfl (Y_ge rfl rfl) ?_
  refine TF_y rfl rfl (Y_pick_t rfl rfl) ?_
  refine TF_y rfl rfl (Y_assign rfl) ?_
  refine TF_nil ?_
  refine T_ret ?_
  exact RetG_1 (.inl rfl) rfl (ResV.tmp rfl) GivesTo.g (⟨rfl, rfl⟩)
end Go.SL
set_option linter.unusedVariables false
set_option linter.unusedSimpArgs false
namespace Go.SL
open Go Go.Proofs

def cmpI (x y : Int) : Int := if x < y then -1 else if y < x then 1 else 0
def orI : List Int → Int
  | [] => 0
  | x :: l => if x ≠ 0 then x else orI l
theorem isNaN_spec (x : Int) (L : List HP) : Fn Try.prog 99 #[.int .i64 x] L (fun v L' => v = .bool false ∧ L' = L) := by
  refine Fn_enter Try.func99 rfl rfl rfl rfl ?_
  refine T_region ?_
  refine TL_y rfl rfl (Y_assign rfl) ?_
  refine TL_nil ?_
  refine T_region ?_
  refine TL_y rfl rfl (Y_move rfl) ?_
  refine TL_y rfl rfl (Y_move rfl) ?_
  refine TL_y rfl rfl (Y_ne rfl rfl) ?_
  refine TL_y rfl rfl (Y_assign rfl) ?_
  refine TL_nil ?_
  refine T_ret ?_
  exact RetG_1 (.inl rfl) rfl (ResV.tmp rfl) GivesTo.g (⟨by simp, rfl⟩)
theorem cmpInt_spec (x y : Int) (L : List HP) : Fn Try.prog 66 #[.int .i64 x, .int .i64 y] L (fun v L' => v = .int .i64 (cmpI x y) ∧ L' = L) := by
  refine Fn_enter Try.func66 rfl rfl rfl rfl ?_
  refine T_region ?_
  refine TL_y rfl rfl (Y_assign rfl) ?_
  refine TL_nil ?_
  refine T_region ?_
  refine TL_y rfl rfl (Y_move rfl) ?_
  refine TL_call rfl rfl (isNaN_spec _ _) ?_
  rintro _ _ ⟨rfl, rfl⟩
  refine TL_name 8 (v' := .bool false) rfl (rfl) ?_
  refine TL_y rfl rfl (Y_assign rfl) ?_
  refine TL_nil ?_
  refine T_region ?_
  refine TL_y rfl rfl (Y_move rfl) ?_
  refine TL_call rfl rfl (isNaN_spec _ _) ?_
  rintro _ _ ⟨rfl, rfl⟩
  refine TL_name 10 (v' := .bool false) rfl (rfl) ?_
  refine TL_y rfl rfl (Y_assign rfl) ?_
  refine TL_nil ?_
  refine T_seq ?_
  refine T_region ?_
  refine TL_y rfl rfl (Y_move rfl) ?_
  refine TL_nil ?_
  refine T_cond_false rfl ?_
  refine T_skip ?_
  refine thenS_normal ?_
  refine T_seq ?_
  refine T_region ?_
  refine TL_y rfl rfl (Y_move rfl) ?_
  refine TL_nil ?_
  refine T_cond_false rfl ?_
  refine T_skip ?_
  refine thenS_normal ?_
  refine T_seq ?_
  refine T_region ?_
  refine TL_y rfl rfl (Y_move rfl) ?_
  refine TL_y rfl rfl (Y_move rfl) ?_
  refine TL_y rfl rfl (Y_lt rfl rfl) ?_
  refine TL_nil ?_
  refine T_if rfl (fun h16 => ?_) (fun h16 => ?_)
  · refine T_region ?_
    refine TL_y rfl rfl (Y_assign rfl) ?_
    refine TL_nil ?_
    refine T_ret ?_
    refine thenS_ret ?_
    exact RetG_1 (.inl rfl) rfl (ResV.tmp rfl) GivesTo.g (⟨by rw [cmpI, if_pos h16], rfl⟩)
  · refine T_skip ?_
    refine thenS_normal ?_
    refine T_seq ?_
    refine T_region ?_
    refine TL_y rfl rfl (Y_move rfl) ?_
    refine TL_y rfl rfl (Y_move rfl) ?_
    refine TL_y rfl rfl (Y_gt rfl rfl) ?_
    refine TL_nil ?_
    refine T_if rfl (fun h19 => ?_) (fun h19 => ?_)
    · refine T_region ?_
      refine TL_y rfl rfl (Y_assign rfl) ?_
      refine TL_nil ?_
      refine T_ret ?_
      refine thenS_ret ?_
      exact RetG_1 (.inl rfl) rfl (ResV.tmp rfl) GivesTo.g (⟨by rw [cmpI, if_neg h16, if_pos h19], rfl⟩)
    · refine T_skip ?_
      refine thenS_normal ?_
      refine T_region ?_
      refine TL_y rfl rfl (Y_assign rfl) ?_
      refine TL_nil ?_
      refine T_ret ?_
      exact RetG_1 (.inl rfl) rfl (ResV.tmp rfl) GivesTo.g (⟨by rw [cmpI, if_neg h16, if_neg h19], rfl⟩)
theorem or_spec {L : List HP} {A : Option Addr} {c : Nat} {l : List Int} (hk : SlK L (intR .i64) A c l) : Fn Try.prog 65 #[.slice A l.length c] L (fun v L' => v = .int .i64 (orI l) ∧ L' = L) := by
  refine Fn_enter Try.func65 rfl rfl rfl rfl ?_
  refine hk.lens fun hl => ?_
  simp only [maxEl] at hl
  refine T_region ?_
  refine TL_y rfl rfl (Y_assign rfl) ?_
  refine TL_nil ?_
  refine T_region ?_
  refine TL_y rfl rfl (Y_assign rfl) ?_
  refine TL_nil ?_
  refine T_seq ?_
  refine T_region ?_
  refine TL_y rfl rfl (Y_move rfl) ?_
  refine TL_y rfl rfl (Y_len rfl) ?_
  refine TL_y rfl rfl (Y_move rfl) ?_
  refine TL_nil ?_
  refine T_block ?_
  refine T_loopK (σ := Nat) [3, 6, 7] (fun i => i ≤ l.length ∧ orI l = orI (l.drop i)) (fun i kv => (8, .int .i64 (i : Int)) :: kv) (fun i => L) (fun i => l.length - i) (0) rfl (⟨Nat.zero_le _, rfl⟩) (GivesTo.g) (sub_cons rfl (sub_cons rfl (sub_cons rfl (sub_cons rfl (sub_nil))))) ?_
  intro i hi
  refine T_region ?_
  refine TL_y rfl rfl (Y_lt rfl rfl) ?_
  refine TL_nil ?_
  refine T_seq ?_
  refine T_if rfl (fun h9 => ?_) (fun h9 => ?_)
  · refine T_skip ?_
    refine thenS_normal ?_
    refine T_seq ?_
    refine T_block ?_
    refine T_region ?_
    obtain ⟨u, hu⟩ : ∃ u, l[i]? = some u := ⟨_, List.getElem?_eq_getElem (by omega)⟩
    have hor : orI l = if u ≠ 0 then u else orI (l.drop (i + 1)) := by rw [hi.2, List.drop_eq_getElem_cons (List.getElem?_eq_some_iff.1 hu).1, (List.getElem?_eq_some_iff.1 hu).2]; rfl
    refine TL_index_int rfl rfl rfl hk hu ?_
    intro hi10 bi10 oi10
    refine TL_y rfl rfl (Y_load_row rfl rfl) ?_
    refine TL_y rfl rfl (Y_assign rfl) ?_
    refine TL_nil ?_
    refine T_region ?_
    refine TL_y rfl rfl (Y_move rfl) ?_
    refine TL_y rfl rfl (Y_move rfl) ?_
    refine TL_y rfl rfl (Y_ne rfl rfl) ?_
    refine TL_nil ?_
    refine T_if rfl (fun h14 => ?_) (fun h14 => ?_)
    · refine T_region ?_
      refine TL_y rfl rfl (Y_move rfl) ?_
      refine TL_y rfl rfl (Y_assign rfl) ?_
      refine TL_nil ?_
      refine T_ret ?_
      refine inB_ret ?_
      refine thenS_ret ?_
      refine thenS_ret ?_
      refine inB_ret ?_
      refine thenS_ret ?_
      exact RetG_1 (.inl rfl) rfl (ResV.tmp rfl) GivesTo.g (⟨by rw [hor, if_pos h14], rfl⟩)
    · refine T_skip ?_
      refine inB_normal ?_
      refine thenS_normal ?_
      refine T_region_last ?_
      refine TL_y rfl rfl (Y_add rfl rfl (by omega)) ?_
      refine TL_name 16 (v' := .int .i64 ((i + 1 : Nat) : Int)) rfl (rfl) ?_
      refine TL_y rfl rfl (Y_move rfl) ?_
      refine TL_nil ?_
      refine thenS_normal ?_
      exact ⟨i + 1, ⟨by omega, by rw [hor, if_neg h14]⟩, by omega, holds_to (sub_cons rfl (sub_cons rfl (sub_cons rfl (sub_cons rfl (sub_nil))))) GivesTo.g⟩
  · refine T_exit ?_
    refine thenS_exit ?_
    refine thenS_exit ?_
    refine inB_hit ?_
    refine thenS_normal ?_
    refine T_region ?_
    refine TL_y rfl rfl (Y_move rfl) ?_
    refine TL_y rfl rfl (Y_assign rfl) ?_
    refine TL_nil ?_
    refine T_ret ?_
    exact RetG_1 (.inl rfl) rfl (ResV.tmp rfl) GivesTo.g (⟨by rw [hi.2, List.drop_of_length_le (by omega)]; rfl, rfl⟩)

/-- Which ballot is greater. -/
def cmpB (a b : Int × Int) : Int := if a.1 < b.1 then -1 else if b.1 < a.1 then 1 else cmpI a.2 b.2
theorem cmpB_or (a b : Int × Int) : orI [cmpI a.1 b.1, cmpI a.2 b.2] = cmpB a b := by
  unfold cmpB orI
  by_cases h1 : a.1 < b.1
  · have e : cmpI a.1 b.1 = -1 := by rw [cmpI, if_pos h1]
    rw [e, if_pos (by decide), if_pos h1]
  · by_cases h2 : b.1 < a.1
    · have e : cmpI a.1 b.1 = 1 := by rw [cmpI, if_neg h1, if_pos h2]
      rw [e, if_pos (by decide), if_neg h1, if_pos h2]
    · have e : cmpI a.1 b.1 = 0 := by rw [cmpI, if_neg h1, if_neg h2]
      rw [e, if_neg (by decide), if_neg h1, if_neg h2]
      unfold orI orI
      by_cases h3 : cmpI a.2 b.2 = 0
      · rw [if_neg (by simpa using h3), h3]
      · rw [if_pos h3]
theorem cmpI_in (x y : Int) : -1 ≤ cmpI x y ∧ cmpI x y ≤ 1 := by
  unfold cmpI; split <;> (try split) <;> decide
/-- A ballot as a value. -/
abbrev balV (a : Int × Int) : Value := .agg #[.int .i64 a.1, .int .i64 a.2]
theorem compare_spec (a b : Int × Int) (L : List HP) : Fn Try.prog 24 #[balV a, balV b] L (fun v L' => v = .int .i64 (cmpB a b) ∧ L' = L) := by
  have h1 := cmpI_in a.1 b.1
  have h2 := cmpI_in a.2 b.2
  refine Fn_enter Try.func24 rfl rfl rfl rfl ?_
  refine T_region ?_
  refine TL_box rfl rfl rfl ?_
  intro b2
  refine TL_box rfl rfl rfl ?_
  intro b3
  refine TL_y rfl rfl (Y_assign rfl) ?_
  refine TL_nil ?_
  refine T_region_draw _ [0, 1, 0, 4, 15, 0, 32, 0, 128, 511, 1023, 2047, 4095] [] [(0, true), (1, true), (2, true), (3, true), (5, true), (6, true), (7, true), (8, true), (4, false), (9, false), (10, false), (11, false), (12, true)] (by kernel_rfl) (by decide +kernel) (Gives.refl _) ?_
  refine TF_y rfl rfl (Y_field_addr rfl) ?_
  refine TF_y rfl rfl (Y_load rfl rfl) ?_
  refine TF_y rfl rfl (Y_field_addr rfl) ?_
  refine TF_y rfl rfl (Y_load rfl rfl) ?_
  refine TF_y rfl rfl (Y_field_addr rfl) ?_
  refine TF_y rfl rfl (Y_load rfl rfl) ?_
  refine TF_y rfl rfl (Y_field_addr rfl) ?_
  refine TF_y rfl rfl (Y_load rfl rfl) ?_
  refine TF_anchor rfl ?_
  refine TL_call rfl rfl (cmpInt_spec _ _ _) ?_
  rintro _ _ ⟨rfl, rfl⟩
  refine TF_end GivesTo.g ?_
  refine TF_anchor rfl ?_
  refine TL_call rfl rfl (cmpInt_spec _ _ _) ?_
  rintro _ _ ⟨rfl, rfl⟩
  refine TF_end GivesTo.g ?_
  refine TF_anchor rfl ?_
  refine TL_build_slice rfl rfl rfl rfl rfl rfl ?_
  intro b15
  refine TL_osl (k := 2) (intR .i64) [cmpI a.1 b.1, cmpI a.2 b.2] (Knows.const fun M => cells_ints (k := .i64) (xs := [cmpI a.1 b.1, cmpI a.2 b.2]) (by intro x hx; simp at hx; rcases hx with rfl | rfl <;> exact i64In_mk (by omega)) M) rfl (by simp) ?_
  refine TL_freeze_osl ?_
  refine TL_name 15 (v' := .slice (some ⟨b15, 0, none⟩) [cmpI a.1 b.1, cmpI a.2 b.2].length 2) rfl rfl ?_
  refine TF_end GivesTo.g ?_
  refine TF_anchor rfl ?_
  refine TL_call rfl rfl (or_spec slk) ?_
  rintro _ _ ⟨rfl, rfl⟩
  refine TF_end GivesTo.g ?_
  refine TF_y rfl rfl (Y_assign rfl) ?_
  refine TF_nil ?_
  refine T_ret ?_
  exact RetG_1 (.inl rfl) rfl (ResV.tmp rfl) GivesTo.g (⟨by rw [cmpB_or], rfl⟩)
end Go.SL
set_option linter.unusedVariables false
set_option linter.unusedSimpArgs false
namespace Go.SL
open Go Go.Proofs
structure OrderD where
  token : ByteArray
  cart : ByteArray
  epoch : Int
  cut : List Int
structure EntryD where
  noop : Bool
  order : OrderD
structure VotedD where
  slot : Int
  bal : Int × Int
  en : EntryD
abbrev orderC (s : OrderD) (p : Option Addr × Nat) : List Value := [.string s.token, .string s.cart, .int .i64 s.epoch, .slice p.1 s.cut.length p.2]
abbrev entryC (e : EntryD) (p : Option Addr × Nat) : List Value := [.bool e.noop, .string e.order.token, .string e.order.cart, .int .i64 e.order.epoch, .slice p.1 e.order.cut.length p.2]
abbrev votedC (v : VotedD) (p : Option Addr × Nat) : List Value := [.int .i64 v.slot, .int .i64 v.bal.1, .int .i64 v.bal.2, .bool v.en.noop, .string v.en.order.token, .string v.en.order.cart, .int .i64 v.en.order.epoch, .slice p.1 v.en.order.cut.length p.2]
def orderOk' (s : OrderD) : Prop := s.token.size ≤ maxEl ∧ s.cart.size ≤ maxEl ∧ intIn .i64 s.epoch ∧ s.cut.length ≤ 17592186043904
def votedOk (v : VotedD) : Prop := intIn .i64 v.slot ∧ intIn .i64 v.bal.1 ∧ intIn .i64 v.bal.2 ∧ orderOk' v.en.order
def orderR : Rep OrderD := exR 4 orderC (fun s p => [sl (intR .i64) p.1 p.2 s.cut]) orderOk' (fun _ _ => rfl) (fun _ _ => rfl)
def entryR : Rep EntryD := exR 5 entryC (fun e p => [sl (intR .i64) p.1 p.2 e.order.cut]) (fun e => orderOk' e.order) (fun _ _ => rfl) (fun _ _ => rfl)
def votedR : Rep VotedD := exR 8 votedC (fun v p => [sl (intR .i64) p.1 p.2 v.en.order.cut]) votedOk (fun _ _ => rfl) (fun _ _ => rfl)
def emptyS : ByteArray := ⟨#[]⟩
def voted0 (noop : Bool) : VotedD := ⟨0, (0, 0), ⟨noop, ⟨⟨#[]⟩, ⟨#[]⟩, 0, []⟩⟩⟩

theorem clone_i64_spec {L : List HP} {A : Option Addr} {c : Nat} {xs : List Int} (hk : SlK L (intR .i64) A c xs) (hb : xs.length ≤ 17592186043904) : Fn Try.prog 52 #[.slice A xs.length c] L (fun v L' => ∃ A' c', v = .slice A' xs.length c' ∧ L' = osl (intR .i64) 3 A' c' xs :: L) := by
  refine Fn_enter Try.func52 rfl rfl rfl rfl ?_
  refine T_region ?_
  refine TL_y rfl rfl (Y_assign rfl) ?_
  refine TL_nil ?_
  refine T_seq ?_
  refine T_region ?_
  refine TL_y rfl rfl (Y_move rfl) ?_
  refine TL_y rfl rfl (Y_equal rfl rfl (EqIs.slice_nil)) ?_
  refine TL_nil ?_
  refine T_if rfl (fun h4 => ?_) (fun h4 => ?_)
  · subst h4
    refine T_fact hk.none_nil (fun _ h => h) (fun e => ?_)
    subst e
    refine T_onil (A := none) (intR .i64) 3 ?_
    refine T_region ?_
    refine TL_y rfl rfl (Y_assign rfl) ?_
    refine TL_nil ?_
    refine T_ret ?_
    refine thenS_ret ?_
    exact RetG_1 (.inl rfl) rfl (ResV.tmp rfl) GivesTo.g (⟨none, 0, rfl, rfl⟩)
  · refine T_skip ?_
    refine thenS_normal ?_
    refine T_region ?_
    refine TL_build_slice rfl rfl rfl rfl rfl rfl ?_
    intro b5
    refine TL_osl (k := 0) (intR .i64) [] (Knows.const fun M => rfl) rfl (by simp) ?_
    refine TL_name 5 (v' := .slice (some ⟨b5, 0, none⟩) ([] : List Int).length 0) rfl rfl ?_
    refine TL_y rfl rfl (Y_move rfl) ?_
    refine TL_append rfl rfl rfl rfl rfl (hk) (by (try simp only [List.length_append, List.length_cons, List.length_nil]); omega) ?_
    intro A7 c7
    refine TL_y rfl rfl (Y_assign rfl) ?_
    refine TL_nil ?_
    refine T_ret ?_
    simp only [List.nil_append]
    exact RetG_1 (.inl rfl) rfl (ResV.tmp rfl) GivesTo.g (⟨A7, c7, rfl, rfl⟩)
end Go.SL
set_option linter.unusedVariables false
set_option linter.unusedSimpArgs false
namespace Go.SL
open Go Go.Proofs

def betterV (slot : Int) (o : Option VotedD) (v : VotedD) : Option VotedD :=
  if v.slot = slot then (match o with
    | none => some v
    | some b => if 0 < cmpB v.bal b.bal then some v else some b) else o
/-- The vote in a slot that is of the greatest ballot, the first of those. -/
def pickV (slot : Int) (l : List VotedD) : Option VotedD := l.foldl (betterV slot) none
def bestOr (o : Option VotedD) : VotedD := match o with
  | some v => v
  | none => voted0 true
theorem pickV_next {slot : Int} {l : List VotedD} {i : Nat} {u : VotedD} (h : l[i]? = some u) : pickV slot (l.take (i + 1)) = betterV slot (pickV slot (l.take i)) u := by
  rw [List.take_add_one, h]
  simp [pickV, List.foldl_append]
theorem better_no {slot : Int} {o : Option VotedD} {u : VotedD} (h : ¬ u.slot = slot) : betterV slot o u = o := by simp only [betterV, if_neg h]
theorem better_first {slot : Int} {o : Option VotedD} {u : VotedD} (h : u.slot = slot) (ho : o.isSome = false) : betterV slot o u = some u := by
  cases o with
  | none => simp only [betterV, if_pos h]
  | some b => cases ho
theorem better_more {slot : Int} {o : Option VotedD} {u : VotedD} (h : u.slot = slot) (ho : o.isSome = true) (hc : 0 < cmpB u.bal (bestOr o).bal) : betterV slot o u = some u := by
  cases o with
  | none => cases ho
  | some b => simp only [betterV, if_pos h]; rw [if_pos (show 0 < cmpB u.bal b.bal from hc)]
theorem better_less {slot : Int} {o : Option VotedD} {u : VotedD} (h : u.slot = slot) (ho : o.isSome = true) (hc : ¬ 0 < cmpB u.bal (bestOr o).bal) : betterV slot o u = o := by
  cases o with
  | none => cases ho
  | some b => simp only [betterV, if_pos h]; rw [if_neg (show ¬ 0 < cmpB u.bal b.bal from hc)]
theorem bestOr_some (u : VotedD) : bestOr (some u) = u := rfl
structure PickSt where
  i : Nat
  A : Option Addr
  c : Nat
theorem pick_spec {L : List HP} {A : Option Addr} {c : Nat} {l : List VotedD} (hk : SlK L votedR A c l) (slot : Int) : Fn Try.prog 14 #[.slice A l.length c, .int .i64 slot] L (fun v L' => ∃ A' c', v = .tuple #[.agg (entryC (bestOr (pickV slot l)).en (A', c')).toArray, .bool (pickV slot l).isSome] ∧ L' = sl (intR .i64) A' c' (bestOr (pickV slot l)).en.order.cut :: L) := by
  refine Fn_enter Try.func14 rfl rfl rfl rfl ?_
  refine hk.lens fun hl => ?_
  simp only [maxEl] at hl
  refine T_gives hk.lay ?_
  refine T_region ?_
  refine TL_alloc rfl rfl ?_
  intro b4
  refine TL_y rfl rfl (Y_assign rfl) ?_
  refine TL_nil ?_
  refine T_region ?_
  refine TL_y rfl rfl (Y_build rfl rfl) ?_
  refine TL_y rfl rfl (Y_build rfl rfl) ?_
  refine TL_alloc rfl rfl ?_
  intro b6
  refine TL_store rfl rfl rfl rfl rfl rfl ?_
  refine TL_nil ?_
  refine T_region ?_
  refine TL_y rfl rfl (Y_assign rfl) ?_
  refine TL_nil ?_
  refine T_seq ?_
  refine T_region ?_
  refine TL_y rfl rfl (Y_move rfl) ?_
  refine TL_y rfl rfl (Y_len rfl) ?_
  refine TL_y rfl rfl (Y_move rfl) ?_
  refine TL_nil ?_
  refine T_block ?_
  refine T_loopK (σ := PickSt) [1, 4, 6, 12, 13] (fun g => g.i ≤ l.length ∧ (bestOr (pickV slot (l.take g.i))).en.order.cut.length ≤ 17592186043904) (fun g kv => (14, .int .i64 (g.i : Int)) :: (7, .bool (pickV slot (l.take g.i)).isSome) :: kv) (fun g => cells b6 (votedC (bestOr (pickV slot (l.take g.i))) (g.A, g.c)) 50 :: sl (intR .i64) g.A g.c (bestOr (pickV slot (l.take g.i))).en.order.cut :: cells b4 (entryC (voted0 false).en (none, 0)) 27 :: sl votedR A c l :: L) (fun g => l.length - g.i) (⟨0, none, 0⟩) rfl (⟨Nat.zero_le _, by simp [pickV, bestOr, voted0]⟩) (Gives.cons _ (SlK.lay (slnil (R := intR .i64) (A := none) (c := 0)))) (sub_cons rfl (sub_cons rfl (sub_cons rfl (sub_cons rfl (sub_cons rfl (sub_cons rfl (sub_cons rfl (sub_nil)))))))) ?_
  rintro ⟨i, A2, c2⟩ ⟨hi, hcut⟩
  dsimp only at hi hcut ⊢
  refine T_region ?_
  refine TL_y rfl rfl (Y_lt rfl rfl) ?_
  refine TL_nil ?_
  refine T_seq ?_
  refine T_if rfl (fun h15 => ?_) (fun h15 => ?_)
  · refine T_skip ?_
    refine thenS_normal ?_
    refine T_seq ?_
    refine T_block ?_
    refine T_region ?_
    obtain ⟨u, hu⟩ : ∃ u, l[i]? = some u := ⟨_, List.getElem?_eq_getElem (by omega)⟩
    have hnx := pickV_next (slot := slot) hu
    refine TL_index rfl rfl rfl slk hu ?_
    intro bi16 oi16 li16
    refine TL_ex ?_
    rintro ⟨A3, c3⟩ hok
    simp only [List.cons_append, List.nil_append]
    refine TL_y rfl rfl (Y_load_row_agg rfl rfl) ?_
    refine TL_alloc rfl rfl ?_
    intro b9
    refine TL_store rfl rfl rfl rfl rfl rfl ?_
    refine TL_nil ?_
    refine T_region ?_
    refine TL_y rfl rfl (Y_field_addr rfl) ?_
    refine TL_y rfl rfl (Y_load rfl rfl) ?_
    refine TL_y rfl rfl (Y_move rfl) ?_
    refine TL_y rfl rfl (Y_eq rfl rfl) ?_
    refine TL_y rfl rfl (Y_move rfl) ?_
    refine TL_splitd 22 rfl (fun h22 => ?_) (fun h22 => ?_)
    · refine TL_grun rfl rfl ?_
      refine TL_y rfl rfl (Y_move rfl) ?_
      refine TL_grun rfl rfl ?_
      refine TL_y rfl rfl (Y_not rfl) ?_
      refine TL_grun rfl rfl ?_
      refine TL_y rfl rfl (Y_move rfl) ?_
      refine TL_split 25 rfl (fun h25 => ?_) (fun h25 => ?_)
      · refine TL_gskip rfl rfl rfl rfl ?_
        refine TL_gskip rfl rfl rfl rfl ?_
        refine TL_gskip rfl rfl rfl rfl ?_
        refine TL_gskip rfl rfl rfl rfl ?_
        refine TL_gskip rfl rfl rfl rfl ?_
        refine TL_gskip rfl rfl rfl rfl ?_
        refine TL_grun rfl rfl ?_
        refine TL_y rfl rfl (Y_pick_t rfl rfl) ?_
        refine TL_y rfl rfl (Y_pick_t rfl rfl) ?_
        refine TL_nil ?_
        refine T_cond_true rfl ?_
        refine T_region_last ?_
        refine TL_y rfl rfl (Y_load_agg rfl rfl) ?_
        refine TL_store rfl rfl rfl rfl rfl rfl ?_
        refine TL_y rfl rfl (Y_assign rfl) ?_
        refine TL_nil ?_
        refine inB_normal ?_
        refine thenS_normal ?_
        refine T_region_last ?_
        refine TL_y rfl rfl (Y_add rfl rfl (by omega)) ?_
        refine TL_name 35 (v' := .int .i64 ((i + 1 : Nat) : Int)) rfl (rfl) ?_
        refine TL_y rfl rfl (Y_move rfl) ?_
        refine TL_nil ?_
        refine thenS_normal ?_
        have hp := hnx.trans (better_first h22 (by simpa using h25))
        refine ⟨⟨i + 1, A3, c3⟩, ?_, by simp only; omega, ?_⟩
        · dsimp only; rw [hp]; exact ⟨by omega, hok.2.2.2.2.2.2⟩
        · dsimp only; rw [hp]; simp only [bestOr_some, Option.isSome_some]; exact holds_to (sub_cons rfl (sub_cons rfl (sub_cons rfl (sub_cons rfl (sub_cons rfl (sub_cons rfl (sub_cons rfl (sub_nil)))))))) GivesTo.g
      · refine TL_grun rfl rfl ?_
        refine TL_y rfl rfl (Y_field_addr rfl) ?_
        refine TL_grun rfl rfl ?_
        refine TL_y rfl rfl (Y_load_agg rfl rfl) ?_
        refine TL_grun rfl rfl ?_
        refine TL_y rfl rfl (Y_field_addr rfl) ?_
        refine TL_grun rfl rfl ?_
        refine TL_y rfl rfl (Y_load_agg rfl rfl) ?_
        refine TL_grun rfl rfl ?_
        refine TL_call rfl rfl (compare_spec u.bal (bestOr (pickV slot (l.take i))).bal _) ?_
        rintro _ _ ⟨rfl, rfl⟩
        refine TL_grun rfl rfl ?_
        refine TL_y rfl rfl (Y_gt rfl rfl) ?_
        refine TL_grun rfl rfl ?_
        refine TL_y rfl rfl (Y_pick_f rfl rfl) ?_
        refine TL_y rfl rfl (Y_pick_t rfl rfl) ?_
        refine TL_nil ?_
        refine T_if rfl (fun h33 => ?_) (fun h33 => ?_)
        · refine T_region_last ?_
          refine TL_y rfl rfl (Y_load_agg rfl rfl) ?_
          refine TL_store rfl rfl rfl rfl rfl rfl ?_
          refine TL_y rfl rfl (Y_assign rfl) ?_
          refine TL_nil ?_
          refine inB_normal ?_
          refine thenS_normal ?_
          refine T_region_last ?_
          refine TL_y rfl rfl (Y_add rfl rfl (by omega)) ?_
          refine TL_name 35 (v' := .int .i64 ((i + 1 : Nat) : Int)) rfl (rfl) ?_
          refine TL_y rfl rfl (Y_move rfl) ?_
          refine TL_nil ?_
          refine thenS_normal ?_
          have hp := hnx.trans (better_more h22 (by simpa using h25) h33)
          refine ⟨⟨i + 1, A3, c3⟩, ?_, by simp only; omega, ?_⟩
          · dsimp only; rw [hp]; exact ⟨by omega, hok.2.2.2.2.2.2⟩
          · dsimp only; rw [hp]; simp only [bestOr_some, Option.isSome_some]; exact holds_to (sub_cons rfl (sub_cons rfl (sub_cons rfl (sub_cons rfl (sub_cons rfl (sub_cons rfl (sub_cons rfl (sub_nil)))))))) GivesTo.g
        · refine T_skip ?_
          refine inB_normal ?_
          refine thenS_normal ?_
          refine T_region_last ?_
          refine TL_y rfl rfl (Y_add rfl rfl (by omega)) ?_
          refine TL_name 35 (v' := .int .i64 ((i + 1 : Nat) : Int)) rfl (rfl) ?_
          refine TL_y rfl rfl (Y_move rfl) ?_
          refine TL_nil ?_
          refine thenS_normal ?_
          have hp := hnx.trans (better_less h22 (by simpa using h25) h33)
          refine ⟨⟨i + 1, A2, c2⟩, ?_, by simp only; omega, ?_⟩
          · dsimp only; rw [hp]; exact ⟨by omega, hcut⟩
          · dsimp only; rw [hp]; exact holds_to (sub_cons rfl (sub_cons rfl (sub_cons rfl (sub_cons rfl (sub_cons rfl (sub_cons rfl (sub_cons rfl (sub_nil)))))))) GivesTo.g
    · refine TL_gskip rfl rfl rfl rfl ?_
      refine TL_gskip rfl rfl rfl rfl ?_
      refine TL_gskip rfl rfl rfl rfl ?_
      refine TL_gskip_u rfl rfl rfl ?_
      refine TL_gskip_u rfl rfl rfl ?_
      refine TL_gskip_u rfl rfl rfl ?_
      refine TL_gskip_u rfl rfl rfl ?_
      refine TL_gskip_u rfl rfl rfl ?_
      refine TL_gskip_u rfl rfl rfl ?_
      refine TL_gskip rfl rfl rfl rfl ?_
      refine TL_y rfl rfl (Y_pick_f rfl rfl) ?_
      refine TL_nil ?_
      refine T_cond_false rfl ?_
      refine T_skip ?_
      refine inB_normal ?_
      refine thenS_normal ?_
      refine T_region_last ?_
      refine TL_y rfl rfl (Y_add rfl rfl (by omega)) ?_
      refine TL_name 35 (v' := .int .i64 ((i + 1 : Nat) : Int)) rfl (rfl) ?_
      refine TL_y rfl rfl (Y_move rfl) ?_
      refine TL_nil ?_
      refine thenS_normal ?_
      have hp := hnx.trans (better_no h22)
      refine ⟨⟨i + 1, A2, c2⟩, ?_, by simp only; omega, ?_⟩
      · dsimp only; rw [hp]; exact ⟨by omega, hcut⟩
      · dsimp only; rw [hp]; exact holds_to (sub_cons rfl (sub_cons rfl (sub_cons rfl (sub_cons rfl (sub_cons rfl (sub_cons rfl (sub_cons rfl (sub_nil)))))))) GivesTo.g
  · refine T_exit ?_
    refine thenS_exit ?_
    refine thenS_exit ?_
    refine inB_hit ?_
    refine thenS_normal ?_
    have e : l.take i = l := List.take_of_length_le (by omega)
    rw [e] at hcut ⊢
    refine T_region ?_
    refine TL_y rfl rfl (Y_field_addr rfl) ?_
    refine TL_y rfl rfl (Y_field_addr rfl) ?_
    refine TL_y rfl rfl (Y_field_addr rfl) ?_
    refine TL_y rfl rfl (Y_load rfl rfl) ?_
    refine TL_call rfl rfl (clone_i64_spec slk hcut) ?_
    rintro _ _ ⟨A40, c40, rfl, rfl⟩
    refine TL_freeze_osl ?_
    refine TL_y rfl rfl (Y_field_addr rfl) ?_
    refine TL_y rfl rfl (Y_field_addr rfl) ?_
    refine TL_y rfl rfl (Y_field_addr rfl) ?_
    refine TL_store rfl rfl rfl rfl rfl rfl ?_
    refine TL_nil ?_
    refine T_region ?_
    refine TL_y rfl rfl (Y_field_addr rfl) ?_
    refine TL_y rfl rfl (Y_load_agg rfl rfl) ?_
    refine TL_y rfl rfl (Y_move rfl) ?_
    refine TL_store rfl rfl rfl rfl rfl rfl ?_
    refine TL_y rfl rfl (Y_assign rfl) ?_
    refine TL_nil ?_
    refine T_ret ?_
    exact RetG_2 (.inl rfl) rfl (ResV.agg rfl rfl) (ResV.tmp rfl) GivesTo.g (⟨A40, c40, rfl, rfl⟩)
end Go.SL
set_option linter.unusedVariables false
set_option linter.unusedSimpArgs false
namespace Go.SL
open Go Go.Proofs
abbrev lv1 : VotedD := ⟨2, (1, 2), ⟨false, ⟨⟨#[98]⟩, ⟨#[]⟩, 0, []⟩⟩⟩
abbrev lv2 : VotedD := ⟨2, (1, 0), ⟨false, ⟨⟨#[97]⟩, ⟨#[]⟩, 0, []⟩⟩⟩
end Go.SL
set_option linter.unusedVariables false
set_option linter.unusedSimpArgs false
namespace Go.SL
open Go Go.Proofs
theorem newVotes_ok {n : Int} (h : 1 ≤ n ∧ n ≤ 7) (L : List HP) : Fn Try.prog 56 #[.int .i64 n] L (fun v L' => ∃ b, v = .tuple #[.pointer (some ⟨b, 0, none⟩), .int .i64 0] ∧ L' = votes b (List.replicate 7 false) n :: L) := (newVotes_spec n L).cases_ fun v L' k => by
  rcases k with ⟨k, _⟩ | ⟨_, k⟩
  · exact absurd h k
  · exact k
def addL (bs : List Bool) (n : Int) (l : List Int) : List Bool := l.foldl (fun bs x => addV bs n x) bs
end Go.SL
set_option linter.unusedVariables false
set_option linter.unusedSimpArgs false
namespace Go.SL
open Go Go.Proofs
def nextB (a : Int × Int) (node : Int) : (Int × Int) × Int := if ¬ (0 ≤ node ∧ node < 7) then ((0, 0), 1) else if a.1 < 0 ∨ 2147483647 ≤ a.1 then ((0, 0), 2) else ((a.1 + 1, node), 0)
theorem isNode_spec (m : Int) (L : List HP) : Fn Try.prog 107 #[.int .i64 m] L (fun v L' => v = .bool (decide (0 ≤ m ∧ m < 7)) ∧ L' = L) := by
  refine Fn_enter Try.func107 rfl rfl rfl rfl ?_
  refine T_region ?_
  refine TL_y rfl rfl (Y_assign rfl) ?_
  refine TL_nil ?_
  refine T_region ?_
  refine TL_y rfl rfl (Y_move rfl) ?_
  refine TL_y rfl rfl (Y_ge rfl rfl) ?_
  refine TL_y rfl rfl (Y_move rfl) ?_
  refine TL_splitd 5 rfl (fun h5 => ?_) (fun h5 => ?_)
  · refine TL_grun rfl rfl ?_
    refine TL_y rfl rfl (Y_move rfl) ?_
    refine TL_grun rfl rfl ?_
    refine TL_y rfl rfl (Y_lt rfl rfl) ?_
    refine TL_y rfl rfl (Y_pick_t rfl rfl) ?_
    refine TL_y rfl rfl (Y_assign rfl) ?_
    refine TL_nil ?_
    refine T_ret ?_
    exact RetG_1 (.inl rfl) rfl (ResV.tmp rfl) GivesTo.g (⟨by simp [h5], rfl⟩)
  · refine TL_gskip rfl rfl rfl rfl ?_
    refine TL_gskip rfl rfl rfl rfl ?_
    refine TL_y rfl rfl (Y_pick_f rfl rfl) ?_
    refine TL_y rfl rfl (Y_assign rfl) ?_
    refine TL_nil ?_
    refine T_ret ?_
    exact RetG_1 (.inl rfl) rfl (ResV.tmp rfl) GivesTo.g (⟨by simp [h5], rfl⟩)
theorem next_spec (a : Int × Int) (node : Int) (L : List HP) : Fn Try.prog 78 #[balV a, .int .i64 node] L (fun v L' => v = .tuple #[balV (nextB a node).1, .int .i64 (nextB a node).2] ∧ L' = L) := by
  refine Fn_enter Try.func78 rfl rfl rfl rfl ?_
  refine T_region ?_
  refine TL_box rfl rfl rfl ?_
  intro b2
  refine TL_alloc rfl rfl ?_
  intro b4
  refine TL_y rfl rfl (Y_assign rfl) ?_
  refine TL_nil ?_
  refine T_seq ?_
  refine T_block ?_
  refine T_region ?_
  refine TL_y rfl rfl (Y_move rfl) ?_
  refine TL_call rfl rfl (isNode_spec _ _) ?_
  rintro _ _ ⟨rfl, rfl⟩
  refine TL_y rfl rfl (Y_not_d rfl) ?_
  refine TL_y rfl rfl (Y_assign rfl) ?_
  refine TL_nil ?_
  refine T_if rfl (fun h6 => ?_) (fun h6 => ?_)
  · refine T_region ?_
    refine TL_y rfl rfl (Y_build rfl rfl) ?_
    refine TL_store rfl rfl rfl rfl rfl rfl ?_
    refine TL_y rfl rfl (Y_assign rfl) ?_
    refine TL_nil ?_
    refine T_ret ?_
    refine inB_ret ?_
    refine thenS_ret ?_
    exact RetG_2 (.inl rfl) rfl (ResV.agg rfl rfl) (ResV.tmp rfl) GivesTo.g (⟨by rw [nextB, if_pos h6], rfl⟩)
  · refine T_region ?_
    refine TL_y rfl rfl (Y_field_addr rfl) ?_
    refine TL_y rfl rfl (Y_load rfl rfl) ?_
    refine TL_y rfl rfl (Y_lt rfl rfl) ?_
    refine TL_y rfl rfl (Y_move rfl) ?_
    refine TL_splitd 15 rfl (fun h15 => ?_) (fun h15 => ?_)
    · refine TL_gskip rfl rfl rfl rfl ?_
      refine TL_gskip rfl rfl rfl rfl ?_
      refine TL_gskip rfl rfl rfl rfl ?_
      refine TL_y rfl rfl (Y_pick_t rfl rfl) ?_
      refine TL_y rfl rfl (Y_assign rfl) ?_
      refine TL_nil ?_
      refine T_cond_true rfl ?_
      refine T_region ?_
      refine TL_y rfl rfl (Y_build rfl rfl) ?_
      refine TL_store rfl rfl rfl rfl rfl rfl ?_
      refine TL_y rfl rfl (Y_assign rfl) ?_
      refine TL_nil ?_
      refine T_ret ?_
      refine inB_ret ?_
      refine thenS_ret ?_
      exact RetG_2 (.inl rfl) rfl (ResV.agg rfl rfl) (ResV.tmp rfl) GivesTo.g (⟨by rw [nextB, if_neg h6, if_pos (by omega)], rfl⟩)
    · refine TL_grun rfl rfl ?_
      refine TL_y rfl rfl (Y_field_addr rfl) ?_
      refine TL_grun rfl rfl ?_
      refine TL_y rfl rfl (Y_load rfl rfl) ?_
      refine TL_grun rfl rfl ?_
      refine TL_y rfl rfl (Y_ge rfl rfl) ?_
      refine TL_y rfl rfl (Y_pick_f rfl rfl) ?_
      refine TL_y rfl rfl (Y_assign rfl) ?_
      refine TL_nil ?_
      refine T_if rfl (fun h11 => ?_) (fun h11 => ?_)
      · refine T_region ?_
        refine TL_y rfl rfl (Y_build rfl rfl) ?_
        refine TL_store rfl rfl rfl rfl rfl rfl ?_
        refine TL_y rfl rfl (Y_assign rfl) ?_
        refine TL_nil ?_
        refine T_ret ?_
        refine inB_ret ?_
        refine thenS_ret ?_
        exact RetG_2 (.inl rfl) rfl (ResV.agg rfl rfl) (ResV.tmp rfl) GivesTo.g (⟨by rw [nextB, if_neg h6, if_pos (by omega)], rfl⟩)
      · refine T_skip ?_
        refine inB_normal ?_
        refine thenS_normal ?_
        refine T_region ?_
        refine TL_y rfl rfl (Y_field_addr rfl) ?_
        refine TL_y rfl rfl (Y_load rfl rfl) ?_
        refine TL_y rfl rfl (Y_add rfl rfl (by omega)) ?_
        refine TL_y rfl rfl (Y_move rfl) ?_
        refine TL_y rfl rfl (Y_build rfl rfl) ?_
        refine TL_store rfl rfl rfl rfl rfl rfl ?_
        refine TL_y rfl rfl (Y_assign rfl) ?_
        refine TL_nil ?_
        refine T_ret ?_
        exact RetG_2 (.inl rfl) rfl (ResV.agg rfl rfl) (ResV.tmp rfl) GivesTo.g (⟨by rw [nextB, if_neg h6, if_neg (by omega)], rfl⟩)

theorem bal_guard : Try.prog.eqGuardType Try.prog.depth 40 = false := by kernel_rfl
theorem bal_held : Try.prog.stoodInHeld 40 = false := by kernel_rfl
theorem eq_bal (dd : Nat) (w : World) (a b : Int × Int) : (Op.equalIn (dd + 2) 40 (balV a) (balV b)).run Try.prog w = .ok (decide (a = b)) w := by
  have hn : ∀ x y, (Op.equalIn (dd + 1) 3 (.int .i64 x) (.int .i64 y)).run Try.prog w = .ok (decide (x = y)) w := fun x y => EqIs.int (k := .i64) dd w
  generalize hdd : dd + 1 = d1 at hn
  have : dd + 2 = d1 + 1 := by omega
  rw [this]
  simp [Op.equalIn, Try.runUnderlying40, bal_held, part, Try.isAgg3, hn]
  by_cases h1 : a.1 = b.1 <;> by_cases h2 : a.2 = b.2 <;> simp [h1, h2, Prod.ext_iff]
section
variable {E : Env} {L : List HP} {ty : TypeId}
theorem eq_bal' (w : World) (a b : Int × Int) : (Op.equal 40 (balV a) (balV b)).run Try.prog w = .ok (decide (a = b)) w := eq_bal 9998 w a b
theorem Y_eq_bal {x y : Operand} {t' : TypeId} {a b : Int × Int} (hx : ev E x = some (balV a)) (hy : ev E y = some (balV b)) : Yl Try.prog E L (.binOp .eql 40 x y t') ty (.bool (decide (a = b))) := fun n D W ac w dst pos af g hv hs => by
  have h3 : ∀ xs ys : Array Value, Go.binOp .eql 40 (.agg xs) (.agg ys) = (do Pure.pure (Value.bool (← Op.equal 40 (.agg xs) (.agg ys))) : Sem Value) := fun xs ys => by simp only [Go.binOp]
  simp only [execOp, hv.ev hx, hv.ev hy, eqGuard, h3]
  simp [bal_guard, eq_bal']
theorem Y_ne_bal {x y : Operand} {t' : TypeId} {a b : Int × Int} (hx : ev E x = some (balV a)) (hy : ev E y = some (balV b)) : Yl Try.prog E L (.binOp .neq 40 x y t') ty (.bool (!decide (a = b))) := fun n D W ac w dst pos af g hv hs => by
  have h3 : ∀ xs ys : Array Value, Go.binOp .neq 40 (.agg xs) (.agg ys) = (do Pure.pure (Value.bool (!(← Op.equal 40 (.agg xs) (.agg ys)))) : Sem Value) := fun xs ys => by simp only [Go.binOp]
  simp only [execOp, hv.ev hx, hv.ev hy, eqGuard, h3]
  simp [bal_guard, eq_bal']
end

theorem cmpI_neg (x y : Int) : cmpI x y = - cmpI y x := by unfold cmpI; split <;> split <;> (try split) <;> omega
theorem cmpB_neg (a b : Int × Int) : cmpB a b = - cmpB b a := by
  have := cmpI_neg a.2 b.2
  unfold cmpB; split <;> split <;> (try split) <;> omega
theorem cmpI_zero {x y : Int} : cmpI x y = 0 ↔ x = y := by unfold cmpI; split <;> (try split) <;> omega
theorem cmpB_zero {a b : Int × Int} : cmpB a b = 0 ↔ a = b := by
  have := cmpI_zero (x := a.2) (y := b.2)
  rw [Prod.ext_iff]
  unfold cmpB; split <;> (try split) <;> omega
theorem cmpI_lt {x y : Int} : cmpI x y < 0 ↔ x < y := by unfold cmpI; split <;> (try split) <;> omega
theorem cmpB_lt {a b : Int × Int} : cmpB a b < 0 ↔ a.1 < b.1 ∨ (a.1 = b.1 ∧ a.2 < b.2) := by
  have := cmpI_lt (x := a.2) (y := b.2)
  unfold cmpB; split <;> (try split) <;> omega
end Go.SL
set_option linter.unusedVariables false
set_option linter.unusedSimpArgs false
namespace Go.SL
open Go Go.Proofs

instance (k : IntKind) (x : Int) : Decidable (intIn k x) := by unfold intIn; exact inferInstance
theorem drop_at {α : Type} {l : List α} {i : Nat} {s : α} (h : l[i]? = some s) : l.drop i = s :: l.drop (i + 1) := by
  have hlt := (List.getElem?_eq_some_iff.1 h).1
  rw [List.drop_eq_getElem_cons hlt]
  congr 1
  exact (List.getElem?_eq_some_iff.1 h).2
theorem take_at {α : Type} {l : List α} {i : Nat} {s : α} (h : l[i]? = some s) : l.take (i + 1) = l.take i ++ [s] := by rw [List.take_add_one, h]; rfl
/-! ### Plain -/
/-- A number's bytes. -/
def grp (x : Nat) : List Int := if x < 128 then [(x : Int)] else ((x % 128 : Nat) + 128 : Int) :: grp (x / 128)
  termination_by x
  decreasing_by omega
theorem grp_small {x : Nat} (h : x < 128) : grp x = [(x : Int)] := by rw [grp, if_pos h]
theorem grp_big {x : Nat} (h : ¬ x < 128) : grp x = ((x % 128 : Nat) + 128 : Int) :: grp (x / 128) := by rw [grp, if_neg h]
theorem grp_pos (x : Nat) : 0 < (grp x).length := by
  rw [grp]; split <;> simp
theorem grp_len : ∀ (k x : Nat), x < 128 ^ (k + 1) → (grp x).length ≤ k + 1
  | 0, x, h => by rw [grp_small (by simpa using h)]; simp
  | k + 1, x, h => by
    by_cases hx : x < 128
    · rw [grp_small hx]; simp
    · rw [grp_big hx]
      have := grp_len k (x / 128) (by rw [Nat.pow_succ] at h; omega)
      simp; omega
theorem grp_ten {x : Nat} (h : x < 18446744073709551616) : (grp x).length ≤ 10 := grp_len 9 x (Nat.lt_of_lt_of_le h (by decide))
theorem u8_or : ∀ m : Fin 256, bitsOf .or .u8 (m.val : Int) 128 = ((m.val % 128 : Nat) : Int) + 128 := by decide +kernel
theorem u8_wrap (x : Nat) : IntKind.u8.wrap (x : Int) = ((x % 256 : Nat) : Int) := by
  simp [IntKind.wrap, IntKind.bits, IntKind.signed]
theorem u8_or_wrap (x : Nat) : bitsOf .or .u8 (IntKind.u8.wrap (x : Int)) 128 = ((x % 128 : Nat) : Int) + 128 := by
  rw [u8_wrap]
  have := u8_or ⟨x % 256, Nat.mod_lt _ (by decide)⟩
  simp only at this
  rw [this]
  omega
theorem shr7 (x : Nat) : (x : Int).fdiv (2 ^ min (7 : Int).toNat IntKind.u64.bits) = ((x / 128 : Nat) : Int) := by
  have : (2 : Int) ^ min (7 : Int).toNat IntKind.u64.bits = 128 := by decide
  rw [this, Int.fdiv_eq_ediv_of_nonneg _ (by decide)]
  omega
/-- What a byte list in the making looks like. -/
structure GrpSt where
  y : Nat
  out : List Int
  A : Option Addr
  c : Nat
def GrpI (x : Nat) (g : GrpSt) : Prop := g.y < 18446744073709551616 ∧ g.out ++ grp g.y = grp x ∧ x < 18446744073709551616
theorem GrpI.len {x : Nat} {g : GrpSt} (h : GrpI x g) : g.out.length < 10 := by
  have := congrArg List.length h.2.1
  have h1 := grp_ten h.2.2
  have := grp_pos g.y
  simp at *
  omega
theorem GrpI.next {x : Nat} {g : GrpSt} (h : GrpI x g) (hy : ¬ g.y < 128) (A : Option Addr) (c : Nat) : GrpI x ⟨g.y / 128, g.out ++ [((g.y % 128 : Nat) : Int) + 128], A, c⟩ := by
  refine ⟨by have := h.1; simp only; omega, ?_, h.2.2⟩
  rw [← h.2.1, grp_big hy]
  simp
theorem byteIn {x : Nat} : intIn .u8 (((x % 128 : Nat) : Int) + 128) := u8In_mk (by omega)

/-! ### group -/
theorem group_spec (x : Nat) (hx : x < 18446744073709551616) (L : List HP) : Fn Try.prog 172 #[.int .u64 (x : Int)] L (fun v L' => ∃ A c, v = .slice A (grp x).length c ∧ L' = osl (intR .u8) 5 A c (grp x) :: L) := by
  refine Fn_enter Try.func172 rfl rfl rfl rfl ?_
  refine T_region ?_
  refine TL_y rfl rfl (Y_assign rfl) ?_
  refine TL_nil ?_
  refine T_region ?_
  refine TL_y rfl rfl (Y_assign rfl) ?_
  refine TL_nil ?_
  refine T_seq ?_
  refine T_block ?_
  refine T_loopK (σ := GrpSt) [] (fun g => GrpI x g) (fun g kv => (0, .int .u64 (g.y : Int)) :: (3, .slice g.A g.out.length g.c) :: kv) (fun g => osl (intR .u8) 5 g.A g.c g.out :: L) (fun g => g.y) (⟨x, [], none, 0⟩) rfl (⟨hx, rfl, hx⟩) (osl_nil _ _ _ _) (sub_cons rfl (sub_cons rfl (sub_nil))) ?_
  intro g hg
  have hl := hg.len
  refine T_seq ?_
  refine T_region ?_
  refine TL_y rfl rfl (Y_move rfl) ?_
  refine TL_y rfl rfl (Y_ge rfl rfl) ?_
  refine TL_nil ?_
  refine T_if rfl (fun h5 => ?_) (fun h5 => ?_)
  · refine T_skip ?_
    refine thenS_normal ?_
    refine T_seq ?_
    refine T_block ?_
    refine T_region_last ?_
    refine TL_y rfl rfl (Y_move rfl) ?_
    refine TL_y rfl rfl (Y_move rfl) ?_
    refine TL_y rfl rfl (Y_conv rfl) ?_
    refine TL_y rfl rfl (Y_bits (by simp) rfl rfl) ?_
    refine TL_name 11 (v' := .int .u8 (((g.y % 128 : Nat) : Int) + 128)) rfl (by rw [u8_or_wrap]) ?_
    refine TL_build_slice rfl rfl rfl rfl rfl rfl ?_
    intro b12
    refine TL_osl (intR .u8) [((g.y % 128 : Nat) : Int) + 128] (Knows.const fun M => cells_ints (xs := [((g.y % 128 : Nat) : Int) + 128]) (by simpa using byteIn) M) rfl (by simp) ?_
    refine TL_freeze_osl ?_
    refine TL_name 12 (v' := .slice (some ⟨b12, 0, none⟩) [((g.y % 128 : Nat) : Int) + 128].length 1) rfl rfl ?_
    refine TL_append rfl rfl rfl rfl rfl slk (by (try simp only [List.length_append, List.length_cons, List.length_nil]); omega) ?_
    intro A13 c13
    refine TL_y rfl rfl (Y_assign rfl) ?_
    refine TL_nil ?_
    refine inB_normal ?_
    refine thenS_normal ?_
    refine T_region_last ?_
    refine TL_y rfl rfl (Y_move rfl) ?_
    refine TL_y rfl rfl (Y_shr rfl rfl (by omega)) ?_
    refine TL_name 7 (v' := .int .u64 ((g.y / 128 : Nat) : Int)) rfl (by rw [shr7]) ?_
    refine TL_y rfl rfl (Y_assign rfl) ?_
    refine TL_nil ?_
    refine thenS_normal ?_
    exact ⟨⟨g.y / 128, g.out ++ [((g.y % 128 : Nat) : Int) + 128], A13, c13⟩, hg.next (by omega) A13 c13, by simp only; omega, holds_to (sub_cons rfl (sub_cons rfl (sub_nil))) GivesTo.g⟩
  · refine T_exit ?_
    refine thenS_exit ?_
    refine thenS_exit ?_
    refine inB_hit ?_
    refine thenS_normal ?_
    refine T_region ?_
    refine TL_y rfl rfl (Y_move rfl) ?_
    refine TL_y rfl rfl (Y_move rfl) ?_
    refine TL_y rfl rfl (Y_conv rfl) ?_
    refine TL_name 16 (v' := .int .u8 (g.y : Int)) rfl (by rw [u8_wrap, Nat.mod_eq_of_lt (by omega)]) ?_
    refine TL_build_slice rfl rfl rfl rfl rfl rfl ?_
    intro b17
    refine TL_osl (intR .u8) [(g.y : Int)] (Knows.const fun M => cells_ints (xs := [(g.y : Int)]) (by simpa using u8In_mk (by omega)) M) rfl (by simp) ?_
    refine TL_freeze_osl ?_
    refine TL_name 17 (v' := .slice (some ⟨b17, 0, none⟩) [(g.y : Int)].length 1) rfl rfl ?_
    refine TL_append rfl rfl rfl rfl rfl slk (by (try simp only [List.length_append, List.length_cons, List.length_nil]); omega) ?_
    intro A18 c18
    refine TL_y rfl rfl (Y_assign rfl) ?_
    refine TL_nil ?_
    refine T_ret ?_
    have e : g.out ++ [(g.y : Int)] = grp x := by rw [← hg.2.1, grp_small (by omega)]
    rw [e]
    exact RetG_1 (.inl rfl) rfl (ResV.tmp rfl) GivesTo.g (⟨A18, c18, rfl, rfl⟩)
end Go.SL
set_option linter.unusedVariables false
set_option linter.unusedSimpArgs false
namespace Go.SL
open Go Go.Proofs
theorem u64_small {x : Nat} (h : x < 18446744073709551616) : IntKind.u64.wrap (x : Int) = (x : Int) := IntWalk.u64_in _ (by omega)
end Go.SL
set_option linter.unusedVariables false
set_option linter.unusedSimpArgs false
namespace Go.SL
open Go Go.Proofs

def val : List Int → Nat
  | [] => 0
  | d :: ds => d.toNat % 128 + 128 * val ds
def High (ds : List Int) : Prop := ∀ d ∈ ds, 128 ≤ d ∧ d ≤ 255
theorem grp_form : ∀ (n x : Nat), x ≤ n → ∃ ds c, grp x = ds ++ [c] ∧ High ds ∧ 0 ≤ c ∧ c < 128 ∧ (c ≠ 0 ∨ ds = []) ∧ x = val (ds ++ [c])
  | n, x, hn => by
    by_cases hx : x < 128
    · exact ⟨[], x, by rw [grp_small hx]; rfl, fun d hd => (by cases hd), by omega, by omega, .inr rfl, by simp only [List.nil_append, val]; omega⟩
    · match n, hn with
      | 0, hn => omega
      | n + 1, hn =>
      obtain ⟨ds, c, h1, h2, h3, h4, h5, h6⟩ := grp_form n (x / 128) (by omega)
      refine ⟨((x % 128 : Nat) + 128 : Int) :: ds, c, by rw [grp_big hx, h1]; rfl, ?_, h3, h4, ?_, ?_⟩
      · intro d hd
        rcases List.mem_cons.1 hd with rfl | hd
        · omega
        · exact h2 d hd
      · left
        rcases h5 with h | h
        · exact h
        · subst h
          simp only [List.nil_append, val] at h6
          omega
      · simp only [List.cons_append, val, ← h6]
        omega
theorem val_grp (x : Nat) : val (grp x) = x := by
  obtain ⟨ds, c, h1, _, _, _, _, h6⟩ := grp_form x x (Nat.le_refl _)
  rw [h1, ← h6]
theorem grp_inj {x y : Nat} (h : grp x = grp y) : x = y := by rw [← val_grp x, h, val_grp]

/-- What reading a number from bytes comes to. -/
def RdU (bs : List Int) (x n e : Nat) : Prop :=
  (e = 0 ∧ x < 18446744073709551616 ∧ bs.take n = grp x ∧ n = (grp x).length ∧ n ≤ bs.length) ∨ (e = 10 ∧ x = 0 ∧ n = 0 ∧ ∀ y, y < 18446744073709551616 → ¬ grp y <+: bs)
/-- Bytes that all go on: a number's bytes are more. -/
theorem grp_more {bs : List Int} {y i : Nat} (hp : grp y <+: bs) (hi : High (bs.take i)) : i < (grp y).length := by
  obtain ⟨ds, c, h1, h2, h3, h4, h5, h6⟩ := grp_form y y (Nat.le_refl _)
  apply Classical.byContradiction
  intro hlt
  obtain ⟨t, ht⟩ := hp
  have hm : c ∈ bs.take i := by
    rw [← ht, List.take_append, List.take_of_length_le (by omega), h1]
    simp
  have := hi c hm
  omega
theorem grp_at {bs : List Int} {y i : Nat} {c : Int} (hp : grp y <+: bs) (hi : High (bs.take i)) (hc : bs[i]? = some c) (h1 : c < 128) : ∃ ds, grp y = ds ++ [c] ∧ ds.length = i ∧ 0 ≤ c ∧ (c ≠ 0 ∨ ds = []) ∧ y = val (ds ++ [c]) := by
  have hl := grp_more hp hi
  obtain ⟨ds, c', g1, g2, g3, g4, g5, g6⟩ := grp_form y y (Nat.le_refl _)
  obtain ⟨t, ht⟩ := hp
  have hlen : (grp y).length = ds.length + 1 := by rw [g1]; simp
  have hci : (ds ++ [c'])[i]? = some c := by
    have e : (grp y ++ t)[i]? = (grp y)[i]? := List.getElem?_append_left hl
    rw [ht, hc] at e
    rw [← g1]
    exact e.symm
  have : i = ds.length := by
    apply Classical.byContradiction
    intro hne
    rw [List.getElem?_append_left (by omega)] at hci
    have := g2 c (List.mem_of_getElem? hci)
    omega
  subst this
  simp at hci
  subst hci
  exact ⟨ds, g1, rfl, g3, g5, g6⟩
theorem rdU_unique {bs : List Int} {x n e x' n' e' : Nat} (h : RdU bs x n e) (k : RdU bs x' n' e') : x = x' ∧ n = n' ∧ e = e' := by
  have pre : ∀ {x n}, bs.take n = grp x → grp x <+: bs := fun h => h ▸ List.take_prefix _ _
  rcases h with ⟨h1, h2, h3, h4, h5⟩ | ⟨h1, h2, h3, h4⟩ <;> rcases k with ⟨k1, k2, k3, k4, k5⟩ | ⟨k1, k2, k3, k4⟩
  · subst h1; subst k1
    have : grp x = grp x' := by
      obtain ⟨ds, c, a1, a2, a3, a4, a5, a6⟩ := grp_form x x (Nat.le_refl _)
      have hx := pre h3
      obtain ⟨t, ht⟩ := hx
      have hH : High (bs.take ds.length) := by rw [← ht, a1]; simp [a2]
      have hc : bs[ds.length]? = some c := by rw [← ht, a1]; simp
      obtain ⟨ds', b1, b2, _⟩ := grp_at (pre k3) hH hc a4
      have e1 : n = n' := by rw [h4, k4, a1, b1]; simp [b2]
      rw [← h3, ← k3, e1]
    have e := grp_inj this
    subst e
    exact ⟨rfl, by omega, rfl⟩
  · exact absurd (pre h3) (k4 _ h2)
  · exact absurd (pre k3) (h4 _ k2)
  · subst h1; subst h2; subst h3; subst k1; subst k2; subst k3; exact ⟨rfl, rfl, rfl⟩
theorem rdU_of_grp {x : Nat} (hx : x < 18446744073709551616) (t : List Int) : RdU (grp x ++ t) x (grp x).length 0 := .inl ⟨rfl, hx, by simp, rfl, by simp⟩

/-! ### Bits -/
end Go.SL
set_option linter.unusedVariables false
set_option linter.unusedSimpArgs false
namespace Go.SL
open Go Go.Proofs

end Go.SL
set_option linter.unusedVariables false
set_option linter.unusedSimpArgs false
namespace Go.SL
open Go Go.Proofs

/-- The bytes of a text. -/
def txt (s : ByteArray) : List Int := grp s.size ++ strBytes s
/-- May it be a name? -/
def nameByte (c : Int) : Prop := (97 ≤ c ∧ c ≤ 122) ∨ (48 ≤ c ∧ c ≤ 57) ∨ c = 45
instance (c : Int) : Decidable (nameByte c) := by unfold nameByte; exact inferInstance
def isName (s : ByteArray) : Prop := (∀ c ∈ strBytes s, nameByte c) ∧ s.size ≠ 0 ∧ s.size ≤ 32
instance (s : ByteArray) : Decidable (isName s) := by unfold isName; exact inferInstance
theorem take_next {α : Type} {p : α → Prop} {xs : List α} {i : Nat} {u : α} (h : ∀ c ∈ xs.take i, p c) (hu : xs[i]? = some u) (hp : p u) : ∀ c ∈ xs.take (i + 1), p c := by
  intro c hc
  rw [List.take_add_one, hu] at hc
  rcases List.mem_append.1 hc with hc | hc
  · exact h c hc
  · simp at hc; subst hc; exact hp
theorem not_name {s : ByteArray} {u : Int} {i : Nat} (hu : (strBytes s)[i]? = some u) (h : ¬ nameByte u) : ¬ isName s := fun ⟨k, _⟩ => h (k u (List.mem_of_getElem? hu))
theorem empty_eq (s : ByteArray) : s = ⟨#[]⟩ ↔ s.size = 0 := by
  constructor
  · rintro rfl; rfl
  · intro h
    cases s with
    | mk d =>
      have : d.size = 0 := h
      rw [Array.size_eq_zero_iff] at this
      rw [this]
theorem name_spec (L : List HP) (s : ByteArray) (hb : s.size ≤ maxEl) : Fn Try.prog 180 #[.string s] L (fun v L' => v = .bool (decide (isName s)) ∧ L' = L) := by
  have hsl := strBytes_length s
  refine Fn_enter Try.func180 rfl rfl rfl rfl ?_
  refine T_region ?_
  refine TL_y rfl rfl (Y_assign rfl) ?_
  refine TL_nil ?_
  refine T_seq ?_
  refine T_region ?_
  refine TL_y rfl rfl (Y_move rfl) ?_
  refine TL_str_bytes rfl rfl (hb) ?_
  intro A6 c6
  refine TL_y rfl rfl (Y_len rfl) ?_
  refine TL_y rfl rfl (Y_move rfl) ?_
  refine TL_nil ?_
  refine T_block ?_
  refine T_loopK (σ := Nat) [0, 6, 7] (fun i => i ≤ (strBytes s).length ∧ ∀ c ∈ (strBytes s).take i, nameByte c) (fun i kv => (8, .int .i64 (i : Int)) :: kv) (fun i => sl (intR .u8) A6 c6 (strBytes s) :: L) (fun i => (strBytes s).length - i) (0) rfl (⟨Nat.zero_le _, by simp⟩) (GivesTo.g) (sub_cons rfl (sub_cons rfl (sub_cons rfl (sub_cons rfl (sub_nil))))) ?_
  intro i hi
  refine T_region ?_
  refine TL_y rfl rfl (Y_lt rfl rfl) ?_
  refine TL_nil ?_
  refine T_seq ?_
  refine T_if rfl (fun h9 => ?_) (fun h9 => ?_)
  · refine T_skip ?_
    refine thenS_normal ?_
    refine T_seq ?_
    refine T_block ?_
    refine T_region ?_
    obtain ⟨u, hu⟩ : ∃ u, (strBytes s)[i]? = some u := ⟨_, List.getElem?_eq_getElem (by omega)⟩
    refine TL_index_int rfl rfl rfl slk hu ?_
    intro hi10 bi10 oi10
    have hu8 := u8In hi10
    refine TL_y rfl rfl (Y_load_row rfl rfl) ?_
    refine TL_y rfl rfl (Y_assign rfl) ?_
    refine TL_nil ?_
    refine T_region ?_
    refine TL_y rfl rfl (Y_move rfl) ?_
    refine TL_y rfl rfl (Y_lt rfl rfl) ?_
    refine TL_y rfl rfl (Y_move rfl) ?_
    refine TL_splitd 14 rfl (fun h14 => ?_) (fun h14 => ?_)
    · refine TL_gskip rfl rfl rfl rfl ?_
      refine TL_gskip rfl rfl rfl rfl ?_
      refine TL_y rfl rfl (Y_pick_t rfl rfl) ?_
      refine TL_y rfl rfl (Y_move rfl) ?_
      refine TL_grun rfl rfl ?_
      refine TL_y rfl rfl (Y_move rfl) ?_
      refine TL_grun rfl rfl ?_
      refine TL_y rfl rfl (Y_lt rfl rfl) ?_
      refine TL_grun rfl rfl ?_
      refine TL_y rfl rfl (Y_move rfl) ?_
      refine TL_splitd 21 rfl (fun h21 => ?_) (fun h21 => ?_)
      · refine TL_gskip rfl rfl rfl rfl ?_
        refine TL_gskip rfl rfl rfl rfl ?_
        refine TL_grun rfl rfl ?_
        refine TL_y rfl rfl (Y_pick_t rfl rfl) ?_
        refine TL_y rfl rfl (Y_pick_t rfl rfl) ?_
        refine TL_y rfl rfl (Y_move rfl) ?_
        refine TL_grun rfl rfl ?_
        refine TL_y rfl rfl (Y_move rfl) ?_
        refine TL_grun rfl rfl ?_
        refine TL_y rfl rfl (Y_ne rfl rfl) ?_
        refine TL_y rfl rfl (Y_pick_t rfl rfl) ?_
        refine TL_nil ?_
        refine T_if rfl (fun h29 => ?_) (fun h29 => ?_)
        · refine T_region ?_
          refine TL_y rfl rfl (Y_assign rfl) ?_
          refine TL_nil ?_
          refine T_ret ?_
          refine inB_ret ?_
          refine thenS_ret ?_
          refine thenS_ret ?_
          refine inB_ret ?_
          refine thenS_ret ?_
          exact RetG_1 (.inl rfl) rfl (ResV.tmp rfl) GivesTo.g (⟨by rw [decide_eq_false (not_name hu (by unfold nameByte; omega))], rfl⟩)
        · refine T_skip ?_
          refine inB_normal ?_
          refine thenS_normal ?_
          refine T_region_last ?_
          refine TL_y rfl rfl (Y_add rfl rfl (by simp only [maxEl] at hb; omega)) ?_
          refine TL_name 30 (v' := .int .i64 ((i + 1 : Nat) : Int)) rfl (rfl) ?_
          refine TL_y rfl rfl (Y_move rfl) ?_
          refine TL_nil ?_
          refine thenS_normal ?_
          exact ⟨i + 1, ⟨by omega, take_next hi.2 hu (by unfold nameByte; omega)⟩, by omega, holds_to (sub_cons rfl (sub_cons rfl (sub_cons rfl (sub_cons rfl (sub_nil))))) GivesTo.g⟩
      · refine TL_grun rfl rfl ?_
        refine TL_y rfl rfl (Y_move rfl) ?_
        refine TL_grun rfl rfl ?_
        refine TL_y rfl rfl (Y_gt rfl rfl) ?_
        refine TL_grun rfl rfl ?_
        refine TL_y rfl rfl (Y_pick_f rfl rfl) ?_
        refine TL_y rfl rfl (Y_pick_t rfl rfl) ?_
        refine TL_y rfl rfl (Y_move rfl) ?_
        refine TL_splitd 26 rfl (fun h26 => ?_) (fun h26 => ?_)
        · refine TL_grun rfl rfl ?_
          refine TL_y rfl rfl (Y_move rfl) ?_
          refine TL_grun rfl rfl ?_
          refine TL_y rfl rfl (Y_ne rfl rfl) ?_
          refine TL_y rfl rfl (Y_pick_t rfl rfl) ?_
          refine TL_nil ?_
          refine T_if rfl (fun h29 => ?_) (fun h29 => ?_)
          · refine T_region ?_
            refine TL_y rfl rfl (Y_assign rfl) ?_
            refine TL_nil ?_
            refine T_ret ?_
            refine inB_ret ?_
            refine thenS_ret ?_
            refine thenS_ret ?_
            refine inB_ret ?_
            refine thenS_ret ?_
            exact RetG_1 (.inl rfl) rfl (ResV.tmp rfl) GivesTo.g (⟨by rw [decide_eq_false (not_name hu (by unfold nameByte; omega))], rfl⟩)
          · refine T_skip ?_
            refine inB_normal ?_
            refine thenS_normal ?_
            refine T_region_last ?_
            refine TL_y rfl rfl (Y_add rfl rfl (by simp only [maxEl] at hb; omega)) ?_
            refine TL_name 30 (v' := .int .i64 ((i + 1 : Nat) : Int)) rfl (rfl) ?_
            refine TL_y rfl rfl (Y_move rfl) ?_
            refine TL_nil ?_
            refine thenS_normal ?_
            exact ⟨i + 1, ⟨by omega, take_next hi.2 hu (by unfold nameByte; omega)⟩, by omega, holds_to (sub_cons rfl (sub_cons rfl (sub_cons rfl (sub_cons rfl (sub_nil))))) GivesTo.g⟩
        · refine TL_gskip rfl rfl rfl rfl ?_
          refine TL_gskip rfl rfl rfl rfl ?_
          refine TL_y rfl rfl (Y_pick_f rfl rfl) ?_
          refine TL_nil ?_
          refine T_cond_false rfl ?_
          refine T_skip ?_
          refine inB_normal ?_
          refine thenS_normal ?_
          refine T_region_last ?_
          refine TL_y rfl rfl (Y_add rfl rfl (by simp only [maxEl] at hb; omega)) ?_
          refine TL_name 30 (v' := .int .i64 ((i + 1 : Nat) : Int)) rfl (rfl) ?_
          refine TL_y rfl rfl (Y_move rfl) ?_
          refine TL_nil ?_
          refine thenS_normal ?_
          exact ⟨i + 1, ⟨by omega, take_next hi.2 hu (by unfold nameByte; omega)⟩, by omega, holds_to (sub_cons rfl (sub_cons rfl (sub_cons rfl (sub_cons rfl (sub_nil))))) GivesTo.g⟩
    · refine TL_grun rfl rfl ?_
      refine TL_y rfl rfl (Y_move rfl) ?_
      refine TL_grun rfl rfl ?_
      refine TL_y rfl rfl (Y_gt rfl rfl) ?_
      refine TL_y rfl rfl (Y_pick_f rfl rfl) ?_
      refine TL_y rfl rfl (Y_move rfl) ?_
      refine TL_splitd 18 rfl (fun h18 => ?_) (fun h18 => ?_)
      · refine TL_grun rfl rfl ?_
        refine TL_y rfl rfl (Y_move rfl) ?_
        refine TL_grun rfl rfl ?_
        refine TL_y rfl rfl (Y_lt rfl rfl) ?_
        refine TL_grun rfl rfl ?_
        refine TL_y rfl rfl (Y_move rfl) ?_
        refine TL_splitd 21 rfl (fun h21 => ?_) (fun h21 => ?_)
        · refine TL_gskip rfl rfl rfl rfl ?_
          refine TL_gskip rfl rfl rfl rfl ?_
          refine TL_grun rfl rfl ?_
          refine TL_y rfl rfl (Y_pick_t rfl rfl) ?_
          refine TL_y rfl rfl (Y_pick_t rfl rfl) ?_
          refine TL_y rfl rfl (Y_move rfl) ?_
          refine TL_grun rfl rfl ?_
          refine TL_y rfl rfl (Y_move rfl) ?_
          refine TL_grun rfl rfl ?_
          refine TL_y rfl rfl (Y_ne rfl rfl) ?_
          refine TL_y rfl rfl (Y_pick_t rfl rfl) ?_
          refine TL_nil ?_
          refine T_if rfl (fun h29 => ?_) (fun h29 => ?_)
          · refine T_region ?_
            refine TL_y rfl rfl (Y_assign rfl) ?_
            refine TL_nil ?_
            refine T_ret ?_
            refine inB_ret ?_
            refine thenS_ret ?_
            refine thenS_ret ?_
            refine inB_ret ?_
            refine thenS_ret ?_
            exact RetG_1 (.inl rfl) rfl (ResV.tmp rfl) GivesTo.g (⟨by rw [decide_eq_false (not_name hu (by unfold nameByte; omega))], rfl⟩)
          · refine T_skip ?_
            refine inB_normal ?_
            refine thenS_normal ?_
            refine T_region_last ?_
            refine TL_y rfl rfl (Y_add rfl rfl (by simp only [maxEl] at hb; omega)) ?_
            refine TL_name 30 (v' := .int .i64 ((i + 1 : Nat) : Int)) rfl (rfl) ?_
            refine TL_y rfl rfl (Y_move rfl) ?_
            refine TL_nil ?_
            refine thenS_normal ?_
            exact ⟨i + 1, ⟨by omega, take_next hi.2 hu (by unfold nameByte; omega)⟩, by omega, holds_to (sub_cons rfl (sub_cons rfl (sub_cons rfl (sub_cons rfl (sub_nil))))) GivesTo.g⟩
        · refine TL_grun rfl rfl ?_
          refine TL_y rfl rfl (Y_move rfl) ?_
          refine TL_grun rfl rfl ?_
          refine TL_y rfl rfl (Y_gt rfl rfl) ?_
          refine TL_grun rfl rfl ?_
          refine TL_y rfl rfl (Y_pick_f rfl rfl) ?_
          refine TL_y rfl rfl (Y_pick_t rfl rfl) ?_
          refine TL_y rfl rfl (Y_move rfl) ?_
          refine TL_splitd 26 rfl (fun h26 => ?_) (fun h26 => ?_)
          · refine TL_grun rfl rfl ?_
            refine TL_y rfl rfl (Y_move rfl) ?_
            refine TL_grun rfl rfl ?_
            refine TL_y rfl rfl (Y_ne rfl rfl) ?_
            refine TL_y rfl rfl (Y_pick_t rfl rfl) ?_
            refine TL_nil ?_
            refine T_if rfl (fun h29 => ?_) (fun h29 => ?_)
            · refine T_region ?_
              refine TL_y rfl rfl (Y_assign rfl) ?_
              refine TL_nil ?_
              refine T_ret ?_
              refine inB_ret ?_
              refine thenS_ret ?_
              refine thenS_ret ?_
              refine inB_ret ?_
              refine thenS_ret ?_
              exact RetG_1 (.inl rfl) rfl (ResV.tmp rfl) GivesTo.g (⟨by rw [decide_eq_false (not_name hu (by unfold nameByte; omega))], rfl⟩)
            · refine T_skip ?_
              refine inB_normal ?_
              refine thenS_normal ?_
              refine T_region_last ?_
              refine TL_y rfl rfl (Y_add rfl rfl (by simp only [maxEl] at hb; omega)) ?_
              refine TL_name 30 (v' := .int .i64 ((i + 1 : Nat) : Int)) rfl (rfl) ?_
              refine TL_y rfl rfl (Y_move rfl) ?_
              refine TL_nil ?_
              refine thenS_normal ?_
              exact ⟨i + 1, ⟨by omega, take_next hi.2 hu (by unfold nameByte; omega)⟩, by omega, holds_to (sub_cons rfl (sub_cons rfl (sub_cons rfl (sub_cons rfl (sub_nil))))) GivesTo.g⟩
          · refine TL_gskip rfl rfl rfl rfl ?_
            refine TL_gskip rfl rfl rfl rfl ?_
            refine TL_y rfl rfl (Y_pick_f rfl rfl) ?_
            refine TL_nil ?_
            refine T_cond_false rfl ?_
            refine T_skip ?_
            refine inB_normal ?_
            refine thenS_normal ?_
            refine T_region_last ?_
            refine TL_y rfl rfl (Y_add rfl rfl (by simp only [maxEl] at hb; omega)) ?_
            refine TL_name 30 (v' := .int .i64 ((i + 1 : Nat) : Int)) rfl (rfl) ?_
            refine TL_y rfl rfl (Y_move rfl) ?_
            refine TL_nil ?_
            refine thenS_normal ?_
            exact ⟨i + 1, ⟨by omega, take_next hi.2 hu (by unfold nameByte; omega)⟩, by omega, holds_to (sub_cons rfl (sub_cons rfl (sub_cons rfl (sub_cons rfl (sub_nil))))) GivesTo.g⟩
      · refine TL_gskip rfl rfl rfl rfl ?_
        refine TL_gskip rfl rfl rfl rfl ?_
        refine TL_gskip rfl rfl rfl rfl ?_
        refine TL_gskip_u rfl rfl rfl ?_
        refine TL_gskip_u rfl rfl rfl ?_
        refine TL_gskip rfl rfl rfl rfl ?_
        refine TL_y rfl rfl (Y_pick_f rfl rfl) ?_
        refine TL_y rfl rfl (Y_move rfl) ?_
        refine TL_gskip rfl rfl rfl rfl ?_
        refine TL_gskip rfl rfl rfl rfl ?_
        refine TL_y rfl rfl (Y_pick_f rfl rfl) ?_
        refine TL_nil ?_
        refine T_cond_false rfl ?_
        refine T_skip ?_
        refine inB_normal ?_
        refine thenS_normal ?_
        refine T_region_last ?_
        refine TL_y rfl rfl (Y_add rfl rfl (by simp only [maxEl] at hb; omega)) ?_
        refine TL_name 30 (v' := .int .i64 ((i + 1 : Nat) : Int)) rfl (rfl) ?_
        refine TL_y rfl rfl (Y_move rfl) ?_
        refine TL_nil ?_
        refine thenS_normal ?_
        exact ⟨i + 1, ⟨by omega, take_next hi.2 hu (by unfold nameByte; omega)⟩, by omega, holds_to (sub_cons rfl (sub_cons rfl (sub_cons rfl (sub_cons rfl (sub_nil))))) GivesTo.g⟩
  · refine T_exit ?_
    refine thenS_exit ?_
    refine thenS_exit ?_
    refine inB_hit ?_
    refine thenS_normal ?_
    refine T_region ?_
    refine TL_y rfl rfl (Y_move rfl) ?_
    refine TL_y rfl rfl (Y_str_ne rfl rfl) ?_
    refine TL_y rfl rfl (Y_move rfl) ?_
    refine TL_splitd 33 rfl (fun h33 => ?_) (fun h33 => ?_)
    · refine TL_grun rfl rfl ?_
      refine TL_y rfl rfl (Y_move rfl) ?_
      refine TL_grun rfl rfl ?_
      refine TL_y rfl rfl (Y_len_str rfl) ?_
      refine TL_grun rfl rfl ?_
      refine TL_y rfl rfl (Y_le rfl rfl) ?_
      refine TL_y rfl rfl (Y_pick_t rfl rfl) ?_
      refine TL_y rfl rfl (Y_assign rfl) ?_
      refine TL_nil ?_
      refine T_ret ?_
      have hall : ∀ c ∈ strBytes s, nameByte c := by have := hi.2; rwa [List.take_of_length_le (by omega)] at this
      exact RetG_1 (.inl rfl) rfl (ResV.tmp rfl) GivesTo.g (⟨by rw [decide_eq_decide.2 (show isName s ↔ (s.size : Int) ≤ 32 from ⟨fun h => by have := h.2.2; omega, fun h => ⟨hall, fun e => h33 ((empty_eq s).2 e), by omega⟩⟩)], rfl⟩)
    · refine TL_gskip rfl rfl rfl rfl ?_
      refine TL_gskip rfl rfl rfl rfl ?_
      refine TL_gskip rfl rfl rfl rfl ?_
      refine TL_y rfl rfl (Y_pick_f rfl rfl) ?_
      refine TL_y rfl rfl (Y_assign rfl) ?_
      refine TL_nil ?_
      refine T_ret ?_
      have hall : ∀ c ∈ strBytes s, nameByte c := by have := hi.2; rwa [List.take_of_length_le (by omega)] at this
      exact RetG_1 (.inl rfl) rfl (ResV.tmp rfl) GivesTo.g (⟨by rw [decide_eq_false (fun h => h.2.1 ((empty_eq s).1 (Classical.not_not.1 h33)))], rfl⟩)

/-- What reading a text from bytes comes to. -/
def RdT (bs : List Int) (most : Int) (s : ByteArray) (n e : Nat) : Prop :=
  (e = 0 ∧ (s.size : Int) ≤ most ∧ bs.take n = txt s ∧ n = (txt s).length ∧ n ≤ bs.length) ∨ (e = 10 ∧ s = ⟨#[]⟩ ∧ n = 0 ∧ ∀ s' : ByteArray, (s'.size : Int) ≤ most → ¬ txt s' <+: bs)
end Go.SL
set_option linter.unusedVariables false
set_option linter.unusedSimpArgs false
namespace Go.SL
open Go Go.Proofs
structure EventD where
  dot : Int × Int
  deps : List Int
  cart : ByteArray
  epoch : Int
  sku : ByteArray
  qty : Int
  clears : Bool
structure MsgD where
  kind : Int
  frm : Int
  to_ : Int
  bal : Int × Int
  slot : Int
  en : EntryD
  voted : List VotedD
  seen : List Int
  events : List EventD
  time : Int
abbrev eventC (e : EventD) (p : Option Addr × Nat) : List Value := [.int .i64 e.dot.1, .int .i64 e.dot.2, .slice p.1 e.deps.length p.2, .string e.cart, .int .i64 e.epoch, .string e.sku, .int .i64 e.qty, .bool e.clears]
def eventOk (e : EventD) : Prop := intIn .i64 e.dot.1 ∧ intIn .i64 e.dot.2 ∧ e.deps.length ≤ 17592186043904 ∧ e.cart.size ≤ maxEl ∧ intIn .i64 e.epoch ∧ e.sku.size ≤ maxEl ∧ intIn .i64 e.qty
def eventR : Rep EventD := exR 8 eventC (fun e p => [sl (intR .i64) p.1 p.2 e.deps]) eventOk (fun _ _ => rfl) (fun _ _ => rfl)

/-! ### What is written -/
abbrev WS := List Int × Bool
def wNum (most n : Int) (s : WS) : WS := if n < 0 ∨ n > most then (s.1, true) else (s.1 ++ grp n.toNat, s.2)
def wName (t : ByteArray) (s : WS) : WS := let u := wNum 65536 (t.size : Int) (s.1, s.2 || !decide (isName t)); (u.1 ++ strBytes t, u.2)
def wTruth (b : Bool) (s : WS) : WS := wNum 1 (if b then 1 else 0) s
def lastZero (v : List Int) : Bool := decide (0 < v.length ∧ v[v.length - 1]? = some 0)
def wInts (v : List Int) (s : WS) : WS := v.foldl (fun s n => wNum 2147483647 n s) s
def wVec (v : List Int) (s : WS) : WS := wInts v (wNum 7 (v.length : Int) (s.1, s.2 || lastZero v))
def wBal (a : Int × Int) (s : WS) : WS := wNum 6 a.2 (wNum 2147483647 a.1 s)
def wSeal (x : OrderD) (s : WS) : WS := wVec x.cut (wNum 2147483647 x.epoch (wName x.cart (wName x.token s)))
def someSeal (x : OrderD) : Bool := decide (x.token ≠ emptyS) || decide (x.cart ≠ emptyS) || decide (x.epoch ≠ 0) || decide (0 < (x.cut.length : Int))
def wEntry (e : EntryD) (s : WS) : WS := let u := wTruth e.noop s; if e.noop = true then (u.1, u.2 || someSeal e.order) else wSeal e.order u
def wEvent (e : EventD) (s : WS) : WS := wTruth e.clears (wNum 1000 e.qty (wName e.sku (wNum 2147483647 e.epoch (wName e.cart (wVec e.deps (wNum 2147483647 e.dot.2 (wNum 6 e.dot.1 s)))))))
def wVoted (v : VotedD) (s : WS) : WS := wEntry v.en (wBal v.bal (wNum 2147483647 v.slot s))
def wVoteds (l : List VotedD) (s : WS) : WS := l.foldl (fun s v => wVoted v s) s
def wEvents (l : List EventD) (s : WS) : WS := l.foldl (fun s v => wEvent v s) s
def wMsg (m : MsgD) (s : WS) : WS := wNum 4611686018427387904 m.time (wEvents m.events (wNum 4096 (m.events.length : Int) (wVec m.seen (wVoteds m.voted (wNum 4096 (m.voted.length : Int)
  (wEntry m.en (wNum 2147483647 m.slot (wBal m.bal (wNum 6 m.to_ (wNum 6 m.frm (wNum 255 m.kind s)))))))))))

/-! ### How much is written -/
def cSeal (x : OrderD) : Nat := x.token.size + x.cart.size + 10 * x.cut.length + 60
def cEvent (e : EventD) : Nat := e.cart.size + e.sku.size + 10 * e.deps.length + 100
def cVoted (v : VotedD) : Nat := cSeal v.en.order + 50
def cVoteds (l : List VotedD) : Nat := (l.map cVoted).sum
def cEvents (l : List EventD) : Nat := (l.map cEvent).sum
def cMsg (m : MsgD) : Nat := cSeal m.en.order + cVoteds m.voted + 10 * m.seen.length + cEvents m.events + 200
theorem wNum_len (most n : Int) (s : WS) (hm : most ≤ 4611686018427387904) : s.1.length ≤ (wNum most n s).1.length ∧ (wNum most n s).1.length ≤ s.1.length + 10 := by
  unfold wNum; split
  · simp
  · have := grp_ten (x := n.toNat) (by omega)
    simp; omega
theorem wName_len (t : ByteArray) (s : WS) : s.1.length ≤ (wName t s).1.length ∧ (wName t s).1.length ≤ s.1.length + 10 + t.size := by
  have := wNum_len 65536 (t.size : Int) (s.1, s.2 || !decide (isName t)) (by decide)
  simp only [wName, List.length_append, strBytes_length]; simp only at this; omega
theorem wTruth_len (b : Bool) (s : WS) : s.1.length ≤ (wTruth b s).1.length ∧ (wTruth b s).1.length ≤ s.1.length + 10 := wNum_len _ _ s (by decide)
theorem wInts_len : ∀ (v : List Int) (s : WS), s.1.length ≤ (wInts v s).1.length ∧ (wInts v s).1.length ≤ s.1.length + 10 * v.length
  | [], s => by simp [wInts]
  | n :: v, s => by
    have h1 := wNum_len 2147483647 n s (by decide)
    have h2 := wInts_len v (wNum 2147483647 n s)
    simp only [wInts, List.foldl_cons, List.length_cons] at h2 ⊢; omega
theorem wVec_len (v : List Int) (s : WS) : s.1.length ≤ (wVec v s).1.length ∧ (wVec v s).1.length ≤ s.1.length + 10 + 10 * v.length := by
  have h1 := wNum_len 7 (v.length : Int) (s.1, s.2 || lastZero v) (by decide)
  have h2 := wInts_len v (wNum 7 (v.length : Int) (s.1, s.2 || lastZero v))
  unfold wVec; simp only at h1; omega
theorem wBal_len (a : Int × Int) (s : WS) : s.1.length ≤ (wBal a s).1.length ∧ (wBal a s).1.length ≤ s.1.length + 20 := by
  have h1 := wNum_len 2147483647 a.1 s (by decide)
  have h2 := wNum_len 6 a.2 (wNum 2147483647 a.1 s) (by decide)
  unfold wBal; omega
theorem wSeal_len (x : OrderD) (s : WS) : s.1.length ≤ (wSeal x s).1.length ∧ (wSeal x s).1.length ≤ s.1.length + (cSeal x - 20) := by
  have h1 := wName_len x.token s
  have h2 := wName_len x.cart (wName x.token s)
  have h3 := wNum_len 2147483647 x.epoch (wName x.cart (wName x.token s)) (by decide)
  have h4 := wVec_len x.cut (wNum 2147483647 x.epoch (wName x.cart (wName x.token s)))
  unfold wSeal cSeal; omega
theorem wEntry_len (e : EntryD) (s : WS) : s.1.length ≤ (wEntry e s).1.length ∧ (wEntry e s).1.length ≤ s.1.length + (cSeal e.order - 10) := by
  have h1 := wTruth_len e.noop s
  have h2 := wSeal_len e.order (wTruth e.noop s)
  unfold wEntry; simp only []
  split
  · simp only [cSeal]; omega
  · simp only [cSeal] at h2 ⊢; omega
theorem wEvent_len (e : EventD) (s : WS) : s.1.length ≤ (wEvent e s).1.length ∧ (wEvent e s).1.length ≤ s.1.length + (cEvent e - 20) := by
  have h1 := wNum_len 6 e.dot.1 s (by decide)
  have h2 := wNum_len 2147483647 e.dot.2 (wNum 6 e.dot.1 s) (by decide)
  have h3 := wVec_len e.deps (wNum 2147483647 e.dot.2 (wNum 6 e.dot.1 s))
  have h4 := wName_len e.cart (wVec e.deps (wNum 2147483647 e.dot.2 (wNum 6 e.dot.1 s)))
  have h5 := wNum_len 2147483647 e.epoch (wName e.cart (wVec e.deps (wNum 2147483647 e.dot.2 (wNum 6 e.dot.1 s)))) (by decide)
  have h6 := wName_len e.sku (wNum 2147483647 e.epoch (wName e.cart (wVec e.deps (wNum 2147483647 e.dot.2 (wNum 6 e.dot.1 s)))))
  have h7 := wNum_len 1000 e.qty (wName e.sku (wNum 2147483647 e.epoch (wName e.cart (wVec e.deps (wNum 2147483647 e.dot.2 (wNum 6 e.dot.1 s)))))) (by decide)
  have h8 := wTruth_len e.clears (wNum 1000 e.qty (wName e.sku (wNum 2147483647 e.epoch (wName e.cart (wVec e.deps (wNum 2147483647 e.dot.2 (wNum 6 e.dot.1 s)))))))
  unfold wEvent cEvent; omega
theorem wVoted_len (v : VotedD) (s : WS) : s.1.length ≤ (wVoted v s).1.length ∧ (wVoted v s).1.length ≤ s.1.length + (cVoted v - 10) := by
  have h1 := wNum_len 2147483647 v.slot s (by decide)
  have h2 := wBal_len v.bal (wNum 2147483647 v.slot s)
  have h3 := wEntry_len v.en (wBal v.bal (wNum 2147483647 v.slot s))
  unfold wVoted cVoted; simp only [cSeal] at h3 ⊢; omega
theorem wVoteds_len : ∀ (l : List VotedD) (s : WS), s.1.length ≤ (wVoteds l s).1.length ∧ (wVoteds l s).1.length ≤ s.1.length + cVoteds l
  | [], s => by simp [wVoteds, cVoteds]
  | v :: l, s => by
    have h1 := wVoted_len v s
    have h2 := wVoteds_len l (wVoted v s)
    simp only [wVoteds, List.foldl_cons, cVoteds, List.map_cons, List.sum_cons] at h2 ⊢; omega
theorem wEvents_len : ∀ (l : List EventD) (s : WS), s.1.length ≤ (wEvents l s).1.length ∧ (wEvents l s).1.length ≤ s.1.length + cEvents l
  | [], s => by simp [wEvents, cEvents]
  | v :: l, s => by
    have h1 := wEvent_len v s
    have h2 := wEvents_len l (wEvent v s)
    simp only [wEvents, List.foldl_cons, cEvents, List.map_cons, List.sum_cons] at h2 ⊢; omega

/-! ### The writer in memory -/
abbrev wrF (b : Nat) (s : WS) (p : Option Addr × Nat) : List HP := [cells b [.slice p.1 s.1.length p.2, .bool s.2] 205, osl (intR .u8) 5 p.1 p.2 s.1]
def wr (b : Nat) (s : WS) : HP := exH (wrF b s)
section
variable {r : Option Nat} {n : Nat} {P : Program} {ops : Array Oper} {rest : List Oper} {K : St → Prop} {Q : Exit → St → Prop} {D : List Deferred} {E : Env} {L L' : List HP} {b : Nat} {s : WS}
theorem T_wr {c : Code} (h : ∀ A c', T r n P c ⟨D, E, cells b [.slice A s.1.length c', .bool s.2] 205 :: osl (intR .u8) 5 A c' s.1 :: L⟩ Q) : T r n P c ⟨D, E, wr b s :: L⟩ Q := T_exH (f := wrF b s) fun p => h p.1 p.2
theorem TL_wr (h : ∀ A c', TL r n P ops rest ⟨D, E, cells b [.slice A s.1.length c', .bool s.2] 205 :: osl (intR .u8) 5 A c' s.1 :: L⟩ K) : TL r n P ops rest ⟨D, E, wr b s :: L⟩ K := TL_exH (f := wrF b s) fun p => h p.1 p.2
theorem wr_close {A : Option Addr} {c : Nat} : Gives (cells b [.slice A s.1.length c, .bool s.2] 205 :: osl (intR .u8) 5 A c s.1 :: L) (wr b s :: L) := exH_close (f := wrF b s) (A, c)
end
instance findK_wr {L : List HP} {b : Nat} {s : WS} : FindK (wr b s :: L) b (wr b s) L := ⟨Gives.refl _⟩
end Go.SL
