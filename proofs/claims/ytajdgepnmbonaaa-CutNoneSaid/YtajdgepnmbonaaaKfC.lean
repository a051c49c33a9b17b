/- What the laws of this claim need, together: the logic, data in memory, the walks of functions. -/
import Derived.Test.YtajdgepnmbonaaaKfB
import Derived.WideKeyEntry
import Derived.Carry
import Derived.SizedLaws
import Derived.OpenShut
import Derived.ProofKit
import Derived.DeepKeys4
import Derived.Ground.NamesProg
import Derived.Shelf.Lay
import Derived.Shelf.Sort.Plain
import Derived.Shelf.Slices.In.SortNone
import Derived.Sort.Walk0
set_option linter.unusedVariables false
set_option linter.unusedSimpArgs false
set_option linter.unusedVariables false
set_option linter.unusedSimpArgs false
namespace Go.SL
open Go Go.MapKept Go.WideShapes
open Go.ChangeMaps (setBlock)
section
variable {κ α : Type} {K : KeyT κ} {R : Rep α} {ag : Bool}
theorem Ents.nil {M : Mem} : Ents K R ag M [] [] := ⟨rfl, fun i e p h => by cases h⟩
theorem Ents.cons {M : Mem} {es : List MapEntry} {l : List (κ × α)} {e : MapEntry} {p : κ × α} (h1 : EntIs K R ag M e p) (h : Ents K R ag M es l) : Ents K R ag M (e :: es) (p :: l) := ⟨by simp [h.1], fun i x q hx hq => by
  cases i with
  | zero => cases hx; cases hq; exact h1
  | succ i => exact h.2 i x q (by simpa using hx) (by simpa using hq)⟩
theorem Ents.uncons {M : Mem} {es : List MapEntry} {l : List (κ × α)} {e : MapEntry} (h : Ents K R ag M (e :: es) l) : ∃ p l', l = p :: l' ∧ EntIs K R ag M e p ∧ Ents K R ag M es l' := by
  match l, h with
  | [], h => exact absurd h.1 (by simp)
  | p :: l', h => exact ⟨p, l', rfl, h.2 0 e p rfl rfl, by simpa using h.1, fun i x q hx hq => h.2 (i + 1) x q (by simpa using hx) (by simpa using hq)⟩
theorem Ents.insert {M : Mem} {e : MapEntry} {p : κ × α} (hp : EntIs K R ag M e p) : ∀ {es : List MapEntry} {j : Nat} {l : List (κ × α)}, j < es.length → Ents K R ag M (es.eraseIdx j) l → Ents K R ag M (es.set j e) (l.take j ++ p :: l.drop j)
  | x :: r, 0, l, _, h => by simpa using Ents.cons hp (by simpa using h)
  | x :: r, j + 1, l, hj, h => by
    rw [List.eraseIdx_cons_succ] at h
    obtain ⟨q, l', rfl, h1, h2⟩ := h.uncons
    simpa using Ents.cons h1 (Ents.insert hp (by simpa using hj) h2)
variable [DecidableEq κ]
structure EntI (K : KeyT κ) (es : Array MapEntry) (clock : Nat) (l : List (κ × α)) (j : Nat) (m : List (κ × α)) (k : κ) (born : Int) : Prop where
  st : Stamped es clock
  at_ : ∃ e, es.toList[j]? = some e ∧ e.key = K.enc k ∧ ((e.born : Nat) : Int) = born
  ok : K.ok k
  lp : l.Perm (delM m k)
abbrev entP (K : KeyT κ) (R : Rep α) (ag : Bool) (es : List MapEntry) (l : List (κ × α)) : HP := pers (fun M => Ents K R ag M es l) (fun hM h => h.mono hM)
abbrev entF (K : KeyT κ) (R : Rep α) (ag : Bool) (b : Nat) (m : List (κ × α)) (k : κ) (born : Int) (x : Array MapEntry × Nat × List (κ × α) × Nat) : List HP :=
  [own b (.map x.1 x.2.1), entP K R ag (x.1.toList.eraseIdx x.2.2.2) x.2.2.1, pure (EntI K x.1 x.2.1 x.2.2.1 x.2.2.2 m k born)]
/-- The map m, of which the entry of key k is laid open. -/
def omapE (K : KeyT κ) (R : Rep α) (ag : Bool) (b : Nat) (m : List (κ × α)) (k : κ) (born : Int) : HP := exH (entF K R ag b m k born)
variable {L : List HP} {b : Nat} {m : List (κ × α)} {P : Program}
theorem omapE_close {es : Array MapEntry} {clock j : Nat} {l : List (κ × α)} {k : κ} {born : Int} (h : EntI K es clock l j m k born) : Gives (own b (.map es clock) :: entP K R ag (es.toList.eraseIdx j) l :: L) (omapE K R ag b m k born :: L) :=
  Gives.trans (Gives.cons _ (Gives.cons _ (Gives.pure_intro h))) (exH_close (f := entF K R ag b m k born) (es, clock, l, j))
theorem omapE_open {k : κ} {born : Int} {W w : World} (h : Sat W w (omapE K R ag b m k born :: L)) : ∃ es clock l j, EntI K es clock l j m k born ∧ Sat W w (own b (.map es clock) :: entP K R ag (es.toList.eraseIdx j) l :: L) := by
  obtain ⟨⟨es, clock, l, j⟩, hp⟩ := exH_open h
  have h2 := hp.gives (Gives.pull 2 (entF K R ag b m k born (es, clock, l, j) ++ L))
  obtain ⟨M, q, hd, hM, hk, h1, h3, hd', l1, l2, hq, hs⟩ := h2.ex
  exact ⟨es, clock, l, j, hq, h2.gives (Gives.drop _ _)⟩
theorem ent_run {t kt et : TypeId} {z : Value} [ht : TyDesc P t (.map kt et)] [hk : KeyOk P kt K] [hz : TyZero P et z] {k : κ} (hok : K.ok k) {W w : World} (hs : Sat W w (omap K R ag b m :: L)) :
    (getM m k = none ∧ ∃ (born : Int) (w' : World), (Instr.mapEntry t (.map (some b)) (K.enc k)).run P w = .ok (.tuple #[z, .int .i64 born]) w' ∧ Sat W w' (omapE K R ag b m k born :: L)) ∨
    ∃ u cs born w', getM m k = some u ∧ (Instr.mapEntry t (.map (some b)) (K.enc k)).run P w = .ok (.tuple #[wrapV ag cs, .int .i64 born]) w' ∧ Sat W w' (is R u cs :: omapE K R ag b m k born :: L) := by
  obtain ⟨es, clock, l, hst, hp, hs1⟩ := omap_open hs
  have hbw : w.heap[b]? = some (.map es clock) := hs1.own_at
  obtain ⟨M, q0, hd0, hM0, hq0, x1, x2, xd, y1, y2, ho0, x3, x4, xd', y3, y4, he, hsep0⟩ := hs1.ex
  have he : Ents K R ag M es.toList l := he
  have hnd : ND l := he.nd ((stamped_iff es clock).1 hst).2.2
  obtain ⟨lx, hlx⟩ := hk.key k hok
  have hc := check_run (P := P) (kt := kt) hok false w
  have hstay := hk.law.stays w hlx
  rcases find_run (P := P) (kt := kt) hok hst hp he w with ⟨g1, g2, g3⟩ | ⟨j, e, u0, cs0, g1, g2, g3, g4, g5, g6, g7⟩
  · refine .inl ⟨g1, (clock : Int), setBlock w b (.map (es.push ⟨K.enc k, z, clock⟩) (clock + 1)), ?_, (sat_setBlock hs1).gives (Gives.trans ?_ (omapE_close (l := l) (j := es.size) ⟨stamped_push (val := z) hst g3, ⟨⟨K.enc k, z, clock⟩, by simp, rfl, rfl⟩, hok, by rw [del_none g1]; exact hp⟩))⟩
    · simp [Instr.mapEntry, ht.run, MapKept.run_getObj_map hbw, hc, g2, hz.run, MapKept.run_setObj_map _ hbw, Result.andThen, setBlock, goInt]
    · intro N q ⟨a1, a2, ad, b1, b2, ho, a3, a4, ad', b3, b4, hen, hsep⟩
      refine ⟨a1, a2, ad, b1, b2, ho, a3, a4, ad', b3, b4, ?_, hsep⟩
      show Ents K R ag N ((es.push ⟨K.enc k, z, clock⟩).toList.eraseIdx es.size) l
      have e1 : (es.push ⟨K.enc k, z, clock⟩).toList.eraseIdx es.size = es.toList := by
        rw [Array.toList_push, List.eraseIdx_append_of_length_le (by simp)]
        simp
      rw [e1]; exact hen
  · have hj : es[j]? = some e := by simpa using g3
    have hlist : (es.modify j (fun e' => { e' with key := K.enc k })).toList = es.toList := by
      rw [Array.toList_modify, ChangeMaps.modify_eq_set _ _ _ _ g3]
      refine set_same (by rw [g3, ← g4])
    refine .inr ⟨u0, cs0, (e.born : Int), setBlock w b (.map (es.modify j (fun e' => { e' with key := K.enc k })) clock), g1, ?_, ?_⟩
    · rw [← g7]
      simp [Instr.mapEntry, ht.run, MapKept.run_getObj_map hbw, hc, g2, hj, g4, hstay, MapKept.run_setObj_map _ hbw, Result.andThen, setBlock, goInt]
    · have hs2 : Sat W (setBlock w b (.map (es.modify j (fun e' => { e' with key := K.enc k })) clock)) (own b (.map (es.modify j (fun e' => { e' with key := K.enc k })) clock) :: is R u0 cs0 :: entP K R ag (es.toList.eraseIdx j) (l.eraseIdx j) :: L) := by
        have h3 : Sat W w (own b (.map es clock) :: is R u0 cs0 :: entP K R ag (es.toList.eraseIdx j) (l.eraseIdx j) :: L) :=
          ⟨⟨M, q0, hd0, hM0, hq0, x1, x2, xd, y1, y2, ho0, Mem.emp, x2, Mem.emp_disj _, Mem.emp_le _, Mem.le_refl _, g6, x3, x4, xd', y3, y4, Ents.erase he j, hsep0⟩, hs1.os, hs1.tape, hs1.output, hs1.size⟩
        exact sat_setBlock h3
      refine hs2.gives ((Gives.swap _ _ _).trans (Gives.cons _ (Gives.trans ?_ (omapE_close (l := l.eraseIdx j) (j := j) ⟨stamped_modify hst j (fun e' => { e' with key := K.enc k }) (fun _ _ => rfl) (fun e' _ he' => by rw [hj] at he'; cases he'; exact g4.symm), ⟨e, by rw [hlist]; exact g3, g4, rfl⟩, hok, by rw [← delM_erase hnd g5]; exact delM_perm hp k⟩))))
      rw [hlist]
      exact Gives.refl _
theorem store_run {t : TypeId} {k : κ} {born : Int} {u : α} {cs : List Value} {m' : List (κ × α)} (hr : Knows L (fun M => R.rep M u cs)) (hm : ((k, u) :: delM m k).Perm m') {W w : World} (hs : Sat W w (omapE K R ag b m k born :: L)) :
    ∃ w', (Instr.entryStore t (.map (some b)) (.int .i64 born) (wrapV ag cs)).run P w = .ok () w' ∧ Sat W w' (omap K R ag b m' :: L) := by
  obtain ⟨es, clock, l, j, hI, hs1⟩ := omapE_open hs
  have hbw : w.heap[b]? = some (.map es clock) := hs1.own_at
  obtain ⟨e, hj, hk, hb⟩ := hI.at_
  have hja : es[j]? = some e := by simpa using hj
  have hjl : j < es.toList.length := (List.getElem?_eq_some_iff.1 hj).1
  have hst := (stamped_iff es clock).1 hI.st
  have hfind : es.findIdx? (fun e => ((e.born : Nat) : Int) == born) = some j := by
    rw [WideElems.findIdx_arr, ← hb]
    exact WideElems.findIdx_born hst.2.1 hj
  have hlist : (es.modify j (fun e' => { e' with val := wrapV ag cs })).toList = es.toList.set j { e with val := wrapV ag cs } := by rw [Array.toList_modify, ChangeMaps.modify_eq_set _ _ _ _ hj]
  refine ⟨setBlock w b (.map (es.modify j (fun e' => { e' with val := wrapV ag cs })) clock), ?_, (sat_setBlock hs1).gives (Gives.trans ?_ (omap_close (l := l.take j ++ (k, u) :: l.drop j) (stamped_modify hI.st j (fun e' => { e' with val := wrapV ag cs }) (fun _ _ => rfl) (fun _ _ _ => rfl)) ?_))⟩
  · simp [Instr.entryStore, MapKept.run_getObj_map hbw, asInt, asIntOf, hfind, MapKept.run_setObj_map _ hbw, Result.andThen, setBlock]
  · intro N q ⟨a1, a2, ad, b1, b2, ho, a3, a4, ad', b3, b4, hen, hsep⟩
    refine ⟨a1, a2, ad, b1, b2, ho, a3, a4, ad', b3, b4, ?_, hsep⟩
    show Ents K R ag N (es.modify j _).toList _
    rw [hlist]
    exact Ents.insert ⟨hk, hI.ok, cs, hr N a4 hsep, rfl⟩ hjl hen
  · refine List.Perm.trans ?_ hm
    refine List.perm_middle.trans (List.Perm.cons _ ?_)
    rw [List.take_append_drop]
    exact hI.lp
section rules
variable {r : Option Nat} {n : Nat} {ops : Array Oper} {rest : List Oper} {KK : St → Prop} {Q : Exit → St → Prop} {D : List Deferred} {E : Env} {L0 : List HP} {d : Nat} {ty : TypeId} {pos : String} {af : Array Edge}
theorem TL_mapEntry {x y : Operand} {t kt et : TypeId} {z : Value} {k : κ} [ht : TyDesc P t (.map kt et)] [hf : FindM L b κ α K R ag m L0] [hk : KeyOk P kt K] [hz : TyZero P et z] (hd : Nat.blt d n = true) (hx : ev E x = some (.map (some b))) (hy : ev E y = some (K.enc k)) (hok : K.ok k)
    (h0 : ∀ born, getM m k = none → TL r n P ops rest ⟨D, (d, .tuple #[z, .int .i64 born]) :: E, omapE K R ag b m k born :: L0⟩ KK)
    (h1 : ∀ u cs born, getM m k = some u → TL r n P ops rest ⟨D, (d, .tuple #[wrapV ag cs, .int .i64 born]) :: E, is R u cs :: omapE K R ag b m k born :: L0⟩ KK) :
    TL r n P ops (⟨some d, .mapEntry t x y, ty, pos, af, none⟩ :: rest) ⟨D, E, L⟩ KK :=
  TL_val rfl hd rfl (fun _ e => by cases e) fun W a w hh => by
    rcases ent_run (P := P) (t := t) (kt := kt) (et := et) (z := z) hok (hh.2.gives hf.g) with ⟨g1, born, w', g2, g3⟩ | ⟨u, cs, born, w', g1, g2, g3⟩
    · exact ⟨_, w', _, by simp [execOp, hh.1.ev hx, hh.1.ev hy, g2], g3, h0 born g1⟩
    · exact ⟨_, w', _, by simp [execOp, hh.1.ev hx, hh.1.ev hy, g2], g3, h1 u cs born g1⟩
class FindE (L : List HP) (b : Nat) (κ : outParam Type) (α : outParam Type) (K : outParam (KeyT κ)) (R : outParam (Rep α)) (ag : outParam Bool) (hd : outParam (DecidableEq κ)) (m : outParam (List (κ × α))) (k : outParam κ) (born : outParam Int) (L' : outParam (List HP)) : Prop where
  g : Gives L (@omapE κ α hd K R ag b m k born :: L')
instance findE_tail {p : HP} {L L' : List HP} {b : Nat} {κ α : Type} {K : KeyT κ} {R : Rep α} {ag : Bool} {hd : DecidableEq κ} {m : List (κ × α)} {k : κ} {born : Int} [h : FindE L b κ α K R ag hd m k born L'] : FindE (p :: L) b κ α K R ag hd m k born (p :: L') := ⟨(Gives.cons p h.g).trans (Gives.swap p _ _)⟩
instance findE_head {L : List HP} {b : Nat} {κ α : Type} {K : KeyT κ} {R : Rep α} {ag : Bool} {hd : DecidableEq κ} {m : List (κ × α)} {k : κ} {born : Int} : FindE (@omapE κ α hd K R ag b m k born :: L) b κ α K R ag hd m k born L := ⟨Gives.refl _⟩
theorem TL_entryStore {x s y : Operand} {t : TypeId} {k : κ} {born : Int} {u : α} {cs : List Value} (m' : List (κ × α)) [hf : FindE L b κ α K R ag ‹_› m k born L0] (hx : ev E x = some (.map (some b))) (hs : ev E s = some (.int .i64 born)) (hy : ev E y = some (wrapV ag cs)) (hr : Knows L0 (fun M => R.rep M u cs)) (hm : ((k, u) :: delM m k).Perm m')
    (h : TL r n P ops rest ⟨D, E, omap K R ag b m' :: L0⟩ KK) : TL r n P ops (⟨none, .entryStore t x s y, ty, pos, af, none⟩ :: rest) ⟨D, E, L⟩ KK :=
  TL_skip rfl rfl (fun _ e => by cases e) fun W a w hh => by
    obtain ⟨w', g1, g2⟩ := store_run (P := P) (t := t) hr hm (hh.2.gives hf.g)
    exact ⟨_, w', _, by simp [execOp, hh.1.ev hx, hh.1.ev hs, hh.1.ev hy, g1], .inl rfl, g2, h⟩
end rules
end
end Go.SL
set_option linter.unusedVariables false
set_option linter.unusedSimpArgs false
namespace Go.SL
open Go Go.RowKit Go.ChangeShapes Go.WideShapes

theorem list_of {α : Type} {p : Nat → α → Prop} : ∀ (n : Nat), (∀ i, i < n → ∃ a, p i a) → ∃ xs : List α, xs.length = n ∧ ∀ i a, xs[i]? = some a → p i a
  | 0, _ => ⟨[], rfl, fun i a h => by simp at h⟩
  | n + 1, h => by
    obtain ⟨xs, h1, h2⟩ := list_of n (fun i hi => h i (by omega))
    obtain ⟨a, ha⟩ := h n (by omega)
    refine ⟨xs ++ [a], by simp [h1], fun i b hb => ?_⟩
    by_cases hi : i < xs.length
    · rw [List.getElem?_append_left hi] at hb; exact h2 i b hb
    · rw [List.getElem?_append_right (by omega)] at hb
      have : i = n := by
        have := (List.getElem?_eq_some_iff.1 hb).1
        simp at this; omega
      subst this
      rw [h1] at hb
      simp at hb
      subst hb; exact ha
theorem mapM_at {α β : Type} {f : α → Option β} : ∀ {l : List α} {r : List β}, l.mapM f = some r → r.length = l.length ∧ ∀ (i : Nat) (x : α), l[i]? = some x → f x = r[i]?
  | [], r, h => by simp at h; subst h; simp
  | x :: l, r, h => by
    simp only [List.mapM_cons] at h
    cases e : f x with
    | none => rw [e] at h; cases h
    | some y =>
      rw [e] at h
      cases e2 : l.mapM f with
      | none => rw [e2] at h; cases h
      | some r' =>
        rw [e2] at h
        cases h
        obtain ⟨h1, h2⟩ := mapM_at e2
        refine ⟨by simp [h1], fun i z hz => ?_⟩
        cases i with
        | zero => simp at hz; subst hz; simpa using e
        | succ i => simpa using h2 i z (by simpa using hz)

/-- A way to count what is read: each value, each letter. -/
structure Bulk (H : Type) where
  f : DataW H → Nat
  one : ∀ d, 1 ≤ f d
  str : ∀ b, b.length + 1 ≤ f (.lit (.string b))
  slice : ∀ e s, (e.map f).sum + 1 ≤ f (.slice e s)
  agg : ∀ ps, (ps.map f).sum + 1 ≤ f (.agg ps)
  ptr : ∀ d, f d + 1 ≤ f (.ptr d)
/-- What is read of type t, of whatever world, is laid as R tells, and bears φ; μ counts it. -/
def Reads {α : Type} (P : Program) (t : TypeId) (R : Rep α) (φ : α → Prop) (μ : α → Nat) : Prop :=
  ∀ (H : Type) (enc : TypeId × Value → H) (W : World) (held : Bool) (fuel : Nat) (cs : List Value) (d : DataW H) (ps : List MemPlace), DataW.trod enc P W 0 (fun _ => true) held fuel t cs = some (d, ps) → (∀ n ∈ d.weights P t, n ≤ reachBytes) →
    ∃ a, R.rep (heapOf W) a cs ∧ φ a ∧ ∀ B : Bulk H, μ a ≤ B.f d
theorem reach_eq : reachBytes = 140737488351232 := rfl
section
variable {P : Program} {t e : TypeId}
theorem wf_in {k : IntKind} {n : Int} (h : (Lit.int k n).wf = true) : intIn k n := by
  simp only [Lit.wf, Bool.and_eq_true, decide_eq_true_eq] at h
  exact h
theorem reads_int {k : IntKind} (ht : P.underlying t = some (.int k)) : Reads P t (intR k) (fun _ => True) (fun _ => 1) := fun H enc W held fuel cs d ps h hw => by
  obtain ⟨n, rfl, hx, hwf⟩ := DataW.trod_int ht h
  exact ⟨n, ⟨rfl, wf_in hwf⟩, trivial, fun B => B.one d⟩
theorem reads_bool (ht : P.underlying t = some .bool) : Reads P t boolR (fun _ => True) (fun _ => 1) := fun H enc W held fuel cs d ps h hw => by
  obtain ⟨b, rfl, hx⟩ := DataW.trod_bool ht h
  exact ⟨b, rfl, trivial, fun B => B.one d⟩
theorem reads_str (ht : P.underlying t = some .string) : Reads P t strR (fun s => s.size ≤ 140737488351232) (fun s => s.size + 1) := fun H enc W held fuel cs d ps h hw => by
  obtain ⟨s, rfl, hx, hs⟩ := DataW.trod_string ht h
  cases hx
  have := hw s.data.toList.length (by simp [DataW.weights])
  rw [reach_eq] at this
  have hsz : s.size = s.data.toList.length := Lib.size_eq s
  exact ⟨s, ⟨rfl, by rw [hsz]; simp only [maxEl]; omega⟩, by show s.size ≤ _; rw [hsz]; exact this, fun B => by show s.size + 1 ≤ _; rw [hsz]; exact B.str _⟩
/-- A slice, of whatever address. -/
def sliceR {α : Type} (R : Rep α) : Rep (List α) := ⟨1, fun M xs cs => ∃ A c, cs = [.slice A xs.length c] ∧ sliceAt M R A c xs, fun hM ⟨A, c, e, h⟩ => ⟨A, c, e, h.mono hM⟩, fun ⟨A, c, e, h⟩ => by rw [e]; rfl, fun ⟨A, c, e, h⟩ v hv => by rw [e] at hv; simp at hv; subst hv; rfl⟩
theorem weightsAll_mem {H : Type} {d : DataW H} {n : Nat} : ∀ {l : List (DataW H)}, d ∈ l → n ∈ d.weights P e → n ∈ DataW.weightsAll P e l
  | x :: l, hd, hn => by
    simp only [DataW.weightsAll, List.mem_append]
    rcases List.mem_cons.1 hd with rfl | hd
    · exact .inl hn
    · exact .inr (weightsAll_mem hd hn)
  | [], hd, _ => by cases hd
theorem sum_le_sum {α β : Type} {f : α → Nat} {g : β → Nat} : ∀ {xs : List α} {ys : List β}, xs.length = ys.length → (∀ (i : Nat) (x : α) (y : β), xs[i]? = some x → ys[i]? = some y → f x ≤ g y) → (xs.map f).sum ≤ (ys.map g).sum
  | [], [], _, _ => by simp
  | x :: xs, y :: ys, hl, h => by
    have h0 := h 0 x y rfl rfl
    have ih := sum_le_sum (xs := xs) (ys := ys) (by simpa using hl) (fun i a b ha hb => h (i + 1) a b (by simpa using ha) (by simpa using hb))
    simp only [List.map_cons, List.sum_cons]
    omega
  | [], _ :: _, hl, _ => by simp at hl
  | _ :: _, [], hl, _ => by simp at hl
theorem reads_slice {α : Type} {R : Rep α} {φ : α → Prop} {μ : α → Nat} (ht : P.underlying t = some (.slice e)) (hsz : P.cellsOf e = R.sz) (h0 : 0 < R.sz) (hb : 0 < P.bytesOf e) (he : Reads P e R φ μ) : Reads P t (sliceR R) (fun xs => xs.length * P.bytesOf e ≤ 140737488351232 ∧ ∀ x ∈ xs, φ x) (fun xs => (xs.map μ).sum + 1) := fun H enc W held fuel cs d ps h hw => by
  rcases DataW.trod_slice ht h with ⟨rfl, hx⟩ | ⟨a, len, cap, elems, rest, n, rfl, rfl, hx, _, hl, hm, hlen, hel, hsp, _⟩
  · exact ⟨[], ⟨none, 0, rfl, sliceAt.nil _ _ _ _⟩, ⟨by simp, fun x hx => by cases hx⟩, fun B => B.one d⟩
  · cases hx
    have hwt : ∀ n ∈ ((elems.map (·.1)).length + (rest.map (·.1)).length) * P.bytesOf e :: (DataW.weightsAll P e (elems.map (·.1)) ++ DataW.weightsAll P e (rest.map (·.1))), n ≤ reachBytes := by
      intro n hn; exact hw n (by simpa [DataW.weights, ht] using hn)
    have hbound : len * P.bytesOf e ≤ 140737488351232 := by
      have := hwt _ (List.mem_cons_self)
      rw [reach_eq] at this
      simp only [List.length_map, hlen] at this
      exact Nat.le_trans (Nat.mul_le_mul_right _ (by omega)) this
    have hle : len ≤ 140737488351232 := Nat.le_trans (Nat.le_mul_of_pos_right _ hb) hbound
    have hall : ∀ i, i < len → ∃ x : α, ((∃ l, R.rep (heapOf W) x l ∧ ∀ j v, l[j]? = some v → W.cell? ((a.add (i * R.sz)).add j) = some v) ∧ φ x) ∧ ∀ y, elems[i]? = some y → ∀ B : Bulk H, μ x ≤ B.f y.1 := by
      intro i hi
      have h1 := hel i hi
      rw [hsz, List.getElem?_eq_getElem (by omega)] at h1
      cases hc : World.cells? W 0 (a.add (i * R.sz)) R.sz with
      | none => rw [hc] at h1; cases h1
      | some cs' =>
        rw [hc] at h1
        simp only [Option.bind_some] at h1
        obtain ⟨x, hx1, hx2, hx3⟩ := he H enc W held n cs' (elems[i]'(by omega)).1 (elems[i]'(by omega)).2 h1 (fun k hk => hwt k (List.mem_cons_of_mem _ (List.mem_append_left _ (weightsAll_mem (List.mem_map.2 ⟨_, List.getElem_mem (by omega), rfl⟩) hk))))
        refine ⟨x, ⟨⟨cs', hx1, fun j v hj => ?_⟩, hx2⟩, fun y hy B => by rw [List.getElem?_eq_getElem (by omega)] at hy; cases hy; exact hx3 B⟩
        simp only [World.cells?, Nat.zero_le, if_true] at hc
        obtain ⟨g1, g2⟩ := mapM_at hc
        have hjl := (List.getElem?_eq_some_iff.1 hj).1
        have := g2 j j (by rw [List.getElem?_range (by simpa [g1] using hjl)])
        rw [this, hj]
    obtain ⟨xs, hxl, hxs⟩ := list_of len hall
    subst hxl
    refine ⟨xs, ⟨some a, cap, rfl, hl, by simp only [maxEl]; omega, ?_⟩, ⟨hbound, fun x hx => let ⟨i, hi⟩ := List.getElem?_of_mem hx; (hxs i x hi).1.2⟩, fun B => ?_⟩
    · cases xs with
      | nil => exact .inl rfl
      | cons x0 xs =>
        right
        obtain ⟨⟨⟨l0, hr0, hc0⟩, _⟩, _⟩ := hxs 0 x0 rfl
        have hl0 := R.len hr0
        obtain ⟨v0, hv0⟩ : ∃ v, l0[0]? = some v := ⟨_, List.getElem?_eq_getElem (by omega)⟩
        have h00 := hc0 0 v0 hv0
        obtain ⟨b, off, spot⟩ := a
        have hspot : spot = none := by simpa [Addr.add] using World.cell?_spot h00
        subst hspot
        obtain ⟨c, t', fr, hblk⟩ : ∃ c t' fr, W.heap[b]? = some (.cells c t' fr) := by
          simp only [World.cell?, Addr.add_plain] at h00
          split at h00
          · exact ⟨_, _, _, by assumption⟩
          · cases h00
        refine ⟨b, off, rfl, c, t', fr, hblk, fun i x hi => ?_⟩
        obtain ⟨⟨⟨l, hr, hc⟩, _⟩, _⟩ := hxs i x hi
        refine ⟨l, hr, fun j v hj => ?_⟩
        have := hc j v hj
        rw [Addr.add_plain, Addr.add_plain, cell_of hblk] at this
        exact this
    · refine Nat.le_trans ?_ (B.slice _ _)
      have := sum_le_sum (f := μ) (g := fun y : DataW H × List MemPlace => B.f y.1) (xs := xs) (ys := elems) hlen.symm (fun i x y hx hy => (hxs i x hx).2 y hy B)
      simp only [List.map_map]
      show (xs.map μ).sum + 1 ≤ _
      have e2 : (B.f ∘ fun x : DataW H × List MemPlace => x.1) = fun y => B.f y.1 := rfl
      rw [e2]
      omega
theorem sum_ge {α : Type} {μ : α → Nat} (h : ∀ x, 1 ≤ μ x) : ∀ xs : List α, xs.length ≤ (xs.map μ).sum
  | [] => by simp
  | x :: xs => by have := sum_ge h xs; have := h x; simp only [List.length_cons, List.map_cons, List.sum_cons]; omega
/-- One argument. -/
theorem arg_reads {α : Type} {R : Rep α} {φ : α → Prop} {μ : α → Nat} (hr : Reads P t R φ μ) {H : Type} {enc : TypeId × Value → H} {W : World} {v : Value} {d : DataW H} {ps : List MemPlace} (h : DataW.Trod enc P W 0 (fun _ => true) true t v d ps) (hw : ∀ n ∈ d.weights P t, n ≤ reachBytes) : ∃ a, R.rep (heapOf W) a v.cells.toList ∧ φ a ∧ ∀ B : Bulk H, μ a ≤ B.f d :=
  let ⟨fuel, h⟩ := h
  hr H enc W true fuel _ d ps h hw
theorem arg_slice {α : Type} {R : Rep α} {φ : List α → Prop} {μ : List α → Nat} (ht : P.underlying t = some (.slice e)) (hr : Reads P t (sliceR R) φ μ) {H : Type} {enc : TypeId × Value → H} {W : World} {base : Nat} {v : Value} {d : DataW H} {ps : List MemPlace} (hval : Value.okWide P W .any base t v) (h : DataW.Trod enc P W 0 (fun _ => true) true t v d ps) (hw : ∀ n ∈ d.weights P t, n ≤ reachBytes) :
    ∃ A c xs, v = .slice A xs.length c ∧ sliceAt (heapOf W) R A c xs ∧ φ xs ∧ ∀ B : Bulk H, μ xs ≤ B.f d := by
  obtain ⟨A, n, c, rfl⟩ := okWide_slice ht hval
  obtain ⟨xs, ⟨A', c', e, h1⟩, h2⟩ := arg_reads hr h hw
  simp only [Value.cells, List.cons.injEq, and_true] at e
  cases e
  exact ⟨_, _, xs, rfl, h1, h2⟩
theorem arg_int {k : IntKind} (ht : P.underlying t = some (.int k)) {H : Type} {enc : TypeId × Value → H} {W : World} {base : Nat} {v : Value} {d : DataW H} {ps : List MemPlace} (hval : Value.okWide P W .any base t v) (h : DataW.Trod enc P W 0 (fun _ => true) true t v d ps) : ∃ n, v = .int k n ∧ intIn k n := by
  obtain ⟨n, rfl, _, _, hw⟩ := open_int ht hval h
  exact ⟨n, rfl, wf_in hw⟩
theorem arg_str (ht : P.underlying t = some .string) {H : Type} {enc : TypeId × Value → H} {W : World} {base : Nat} {v : Value} {d : DataW H} {ps : List MemPlace} (hval : Value.okWide P W .any base t v) (h : DataW.Trod enc P W 0 (fun _ => true) true t v d ps) (hw : ∀ n ∈ d.weights P t, n ≤ reachBytes) : ∃ s : ByteArray, v = .string s ∧ s.size ≤ 140737488351232 ∧ ∀ B : Bulk H, s.size + 1 ≤ B.f d := by
  obtain ⟨s, rfl⟩ := okWide_string ht hval
  obtain ⟨s', ⟨e, _⟩, h2⟩ := arg_reads (reads_str ht) h hw
  simp only [Value.cells, List.cons.injEq, and_true] at e
  cases e
  exact ⟨_, rfl, h2⟩
end

section
variable {P : Program} {t : TypeId} {H : Type} {enc : TypeId × Value → H} {W : World} {held : Bool}
theorem weightsEach_mem {k : Nat} : ∀ {ts : List TypeId} {ds : List (DataW H)} {i : Nat} {t : TypeId} {d : DataW H}, ts[i]? = some t → ds[i]? = some d → k ∈ d.weights P t → k ∈ DataW.weightsEach P ts ds :=
  fun ht hd hk => DataW.weights_mem_each ht hd _ hk
/-- A record is read field by field. -/
theorem reads_fields {fs : Array Field} {fuel : Nat} {cs : List Value} {d : DataW H} {ps : List MemPlace} (ht : P.underlying t = some (.struct fs)) (h : DataW.trod enc P W 0 (fun _ => true) held fuel t cs = some (d, ps)) (hw : ∀ n ∈ d.weights P t, n ≤ reachBytes) :
    ∃ (ds : List (DataW H)) (n : Nat), d = .agg ds ∧ cs.length = P.cellsOf t ∧ ds.length = fs.size ∧ ∀ (i : Nat) (f : Field), fs[i]? = some f → ∃ d' ps', ds[i]? = some d' ∧ DataW.trod enc P W 0 (fun _ => true) held n f.type ((cs.drop f.offset).take (P.cellsOf f.type)) = some (d', ps') ∧ ∀ k ∈ d'.weights P f.type, k ≤ reachBytes := by
  obtain ⟨xs, n, _, hx, hl, hlen, hf⟩ := DataW.trod_struct ht h
  cases hx
  refine ⟨_, n, rfl, hl, by simp [hlen], fun i f hi => ?_⟩
  have hil : i < xs.length := by rw [hlen]; exact (Array.getElem?_eq_some_iff.1 hi).1
  have h1 := hf i f hi
  rw [List.getElem?_eq_getElem hil] at h1
  refine ⟨xs[i].1, xs[i].2, by simp [hil], h1, fun k hk => hw k ?_⟩
  simp only [DataW.weights, ht]
  exact weightsEach_mem (i := i) (t := f.type) (d := xs[i].1) (by simp [hi]) (by simp [hil]) hk
end
/-! ### What is kept -/
theorem sat_init {W : World} {L : List HP} (h : Sep L (heapOf W) Mem.emp) : Sat W W L := ⟨⟨heapOf W, Mem.emp, Mem.disj_symm (Mem.emp_disj _), Mem.le_refl _, Mem.emp_le _, h⟩, rfl, rfl, rfl, Nat.le_refl _⟩
theorem sep_nil {M : Mem} : Sep [] M Mem.emp := trivial
theorem sep_cons {M : Mem} {p : HP} {L : List HP} (h : p.holds M Mem.emp) (k : Sep L M Mem.emp) : Sep (p :: L) M Mem.emp := ⟨Mem.emp, Mem.emp, Mem.emp_disj _, Mem.le_refl _, Mem.le_refl _, h, k⟩
theorem below_of {W w' : World} {L : List HP} (h : Sat W w' (base (heapOf W) :: L)) : Below W.heap.size W w' := by
  obtain ⟨M, k, hd, hM, hk, h1, h2, hd', l1, l2, hp, hs⟩ := h.ex
  refine ⟨h.os, h.tape, h.output, h.size, fun j hj => ?_⟩
  have e : heapOf W j = some (W.heap[j]'hj) := Array.getElem?_eq_getElem hj
  have := hM _ _ (hp _ _ e)
  rw [Array.getElem?_eq_getElem hj]
  exact this
theorem law_calls {P : Program} {f : FuncId} {args : Array Value} {W : World} {L : List HP} (hs : Sep (base (heapOf W) :: L) (heapOf W) Mem.emp) (h : Fn P f args (base (heapOf W) :: L) (fun v L' => v = .bool true ∧ L' = base (heapOf W) :: L)) : Calls P f args W fun e W' => e = .returned (.bool true) ∧ Below W.heap.size W W' :=
  (h W W (sat_init hs)).mono fun e w' ⟨v, L', he, ⟨hv, hL⟩, hsat⟩ => by
    subst he; subst hv; subst hL
    exact ⟨rfl, below_of hsat⟩
theorem trodAll_below {H : Type} {enc : TypeId × Value → H} {P : Program} {W W' : World} (hl : laidOutB P = true) (hb : Below W.heap.size W W') : ∀ {ts : List TypeId} {vs : List Value} {ds : List (DataW H)} {ps : List MemPlace}, ts.all (fun t => P.readableRec t && decide (t < P.types.size)) = true → DataW.TrodAll enc P W 0 (fun _ => true) true ts vs ds ps → (∀ x ∈ ps, x.block < W.heap.size) →
    DataW.TrodAll enc P W' 0 (fun b => decide (b < W.heap.size)) true ts vs ds ps
  | [], _, _, _, _, h, _ => by
    obtain ⟨rfl, rfl, rfl⟩ := trodAll_nil h
    exact trodAll_mk0
  | t :: ts, vs, ds, ps, hts, h, hp => by
    obtain ⟨v, vs1, d, ds1, a, b, rfl, rfl, rfl, h1, h2⟩ := trodAll_cons h
    simp only [List.all_cons, Bool.and_eq_true, decide_eq_true_eq] at hts
    exact trodAll_cons_mk (Below.trod hl hts.1.1 hts.1.2 h1 hb (fun x hx => hp x (List.mem_append_left _ hx))) (trodAll_below hl hb hts.2 h2 (fun x hx => hp x (List.mem_append_right _ hx)))
theorem post_true {H : Type} {enc : TypeId × Value → H} {P : Program} {f : Func} {s : ChangeSpec} {apart fresh handsOn : Bool} {W W' : World} {args : Array Value} {ds gs : List (DataW H)} {before : List MemPlace} {tb : TypeId}
    (hW : DataW.Whole enc P f.params.toList s.vars apart W args.toList ds gs before) (hb : Below W.heap.size W W') (hl : laidOutB P = true) (hts : f.params.toList.all (fun t => P.readableRec t && decide (t < P.types.size)) = true) (hr : f.resultTypes = #[tb]) (htb : P.underlying tb = some .bool) (hv : s.vars = [])
    (hfn : s.fn H (ds ++ gs) = { results := [.lit (.bool true)], args := ds }) : s.post enc P f apart fresh handsOn false W args (.bool true) W' := by
  have hW' := hW
  obtain ⟨p, q, hA, hV, rfl, hfz, hnd⟩ := hW
  rw [hv] at hV
  obtain ⟨rfl, rfl⟩ := trodVars_none hV
  refine ⟨ds, [], p ++ [], [], p, [], hW', ?_, ?_, ?_, hb.frame _, fun h => by cases h⟩
  · rw [hfn, hr]
    exact trodAll_cons_mk (shut_bool htb true) trodAll_mk0
  · rw [hfn]
    exact trodAll_below hl hb hts hA (fun x hx => by simpa using hW'.lt x (by simpa using hx))
  · rw [hfn, hv]
    exact (by simp [DataW.TrodVars])
end Go.SL
set_option linter.unusedVariables false
set_option linter.unusedSimpArgs false
namespace Go.SL
open Go Go.Proofs
abbrev evV (e : EventD) (p : Option Addr × Nat) : Value := .agg (List.toArray (eventC e p))
theorem ctCopied_spec {L : List HP} (e : EventD) (p : Option Addr × Nat) (hk : SlN L (intR .i64) p.1 p.2 e.deps) (ho : eventOk e) : Fn Try.prog 72 #[evV e p] L (fun r L' => ∃ q, r = evV e q ∧ L' = osl (intR .i64) 3 q.1 q.2 e.deps :: L) := by
  refine Fn_enter Try.func72 rfl rfl rfl rfl ?_
  refine T_region ?_
  refine TL_box rfl rfl rfl ?_
  intro b1
  refine TL_alloc rfl rfl ?_
  intro b2
  refine TL_nil ?_
  refine T_region ?_
  refine TL_y rfl rfl (Y_field_addr rfl) ?_
  refine TL_y rfl rfl (Y_load rfl rfl) ?_
  refine TL_call rfl rfl (cloneN_spec hk.tail.tail ho.2.2.1) ?_
  rintro _ _ ⟨A5, c5, rfl, rfl⟩
  refine TL_y rfl rfl (Y_field_addr rfl) ?_
  refine TL_store rfl rfl rfl rfl rfl rfl ?_
  refine TL_nil ?_
  refine T_region ?_
  refine TL_y rfl rfl (Y_load_agg rfl rfl) ?_
  refine TL_store rfl rfl rfl rfl rfl rfl ?_
  refine TL_nil ?_
  refine T_ret ?_
  exact RetG_1 (.inl rfl) rfl (ResV.agg rfl rfl) GivesTo.g (⟨(A5, c5), rfl, rfl⟩)
/-! ### The events of which a function tells true -/
def whr {σ : Type} (want : σ → EventD → Bool) (stp : σ → EventD → σ) : σ → List EventD → List EventD × σ
  | s, [] => ([], s)
  | s, e :: r => let x := whr want stp (stp s e) r; (bif want s e then e :: x.1 else x.1, x.2)
theorem whr_snoc {σ : Type} {want : σ → EventD → Bool} {stp : σ → EventD → σ} : ∀ (l : List EventD) (s : σ) (e : EventD), whr want stp s (l ++ [e]) = ((whr want stp s l).1 ++ (bif want (whr want stp s l).2 e then [e] else []), stp (whr want stp s l).2 e)
  | [], s, e => by simp [whr]
  | x :: r, s, e => by
    simp only [List.cons_append, whr]
    rw [whr_snoc r]
    cases want s x <;> simp
theorem whr_at {σ : Type} {want : σ → EventD → Bool} {stp : σ → EventD → σ} {l : List EventD} {i : Nat} {e : EventD} (h : l[i]? = some e) (s : σ) : whr want stp s (l.take (i + 1)) = ((whr want stp s (l.take i)).1 ++ (bif want (whr want stp s (l.take i)).2 e then [e] else []), stp (whr want stp s (l.take i)).2 e) := by
  rw [takeAt h]; exact whr_snoc _ _ _
theorem whr_len {σ : Type} {want : σ → EventD → Bool} {stp : σ → EventD → σ} : ∀ (l : List EventD) (s : σ), (whr want stp s l).1.length ≤ l.length
  | [], s => by simp [whr]
  | x :: r, s => by
    have := whr_len (want := want) (stp := stp) r (stp s x)
    simp only [whr]
    cases want s x <;> simp <;> omega
theorem whr_filter (p : EventD → Bool) : ∀ l : List EventD, (whr (fun (_ : Unit) e => p e) (fun s _ => s) () l).1 = l.filter p
  | [] => rfl
  | x :: r => by
    simp only [whr, List.filter_cons]
    rw [whr_filter p r]
    cases p x <;> simp
theorem whr_once : ∀ (l : List EventD) (seen : List DotD), (whr (fun seen e => !decide (e.dot ∈ seen)) (fun seen e => e.dot :: seen) seen l).1 = onceS seen l
  | [], seen => rfl
  | x :: r, seen => by
    simp only [whr, onceS]
    by_cases h : x.dot ∈ seen
    · have key : ∀ (l : List EventD) (a b : List DotD), (∀ d, d ∈ a ↔ d ∈ b) → (whr (fun seen e => !decide (e.dot ∈ seen)) (fun seen e => e.dot :: seen) a l).1 = (whr (fun seen e => !decide (e.dot ∈ seen)) (fun seen e => e.dot :: seen) b l).1 := by
        intro l
        induction l with
        | nil => intro a b _; rfl
        | cons y t ih =>
          intro a b hab
          simp only [whr]
          rw [ih (y.dot :: a) (y.dot :: b) (fun d => by rw [List.mem_cons, List.mem_cons, hab])]
          simp only [hab]
      rw [if_pos h, ← whr_once r seen]
      simp only [h, decide_true, Bool.not_true, cond_false]
      exact key r (x.dot :: seen) seen fun d => ⟨fun hd => by rcases List.mem_cons.1 hd with rfl | hd; exact h; exact hd, List.mem_cons_of_mem _⟩
    · rw [if_neg h, whr_once r]
      simp [h]
structure WhSt (σ : Type) where
  i : Nat
  A : Option Addr
  c : Nat
theorem where_spec {σ : Type} {L : List HP} {A : Option Addr} {c : Nat} {l : List EventD} (W : σ → HP) (want : σ → EventD → Bool) (stp : σ → EventD → σ) (f : FuncId) [IsCall Try.prog f] (caps : List Value) (s0 : σ)
    (hspec : ∀ (s : σ) (e : EventD) (q : Option Addr × Nat) (L1 : List HP), e ∈ l → eventOk e → SlN L1 (intR .i64) q.1 q.2 e.deps → Fn Try.prog f ([] ++ [evV e q] ++ caps).toArray (W s :: L1) (fun v L' => v = .bool (want s e) ∧ L' = W (stp s e) :: L1))
    (hk : SlK L eventR A c l) (hl : l.length ≤ 1466015503701) :
    Fn Try.prog 41 #[.slice A l.length c, .func (.func f) #[] caps.toArray] (W s0 :: L) (fun v L' => ∃ A' c', v = .slice A' (whr want stp s0 l).1.length c' ∧ L' = osl eventR 29 A' c' (whr want stp s0 l).1 :: W (whr want stp s0 l).2 :: L) := by
  refine Fn_enter Try.func41 rfl rfl rfl rfl ?_
  refine T_gives (SlK.lay hk.tail) ?_
  refine T_region ?_
  refine TL_y rfl rfl (Y_assign rfl) ?_
  refine TL_nil ?_
  refine T_region ?_
  refine TL_y rfl rfl (Y_assign rfl) ?_
  refine TL_nil ?_
  refine T_seq ?_
  refine T_region ?_
  refine TL_y rfl rfl (Y_move rfl) ?_
  refine TL_y rfl rfl (Y_len rfl) ?_
  refine TL_y rfl rfl (Y_move rfl) ?_
  refine TL_nil ?_
  refine T_block ?_
  refine T_loopK (σ := WhSt σ) [1, 8, 9] (fun g => g.i ≤ l.length) (fun g kv => (10, .int .i64 (g.i : Int)) :: (5, .slice g.A (whr want stp s0 (l.take g.i)).1.length g.c) :: kv) (fun g => osl eventR 29 g.A g.c (whr want stp s0 (l.take g.i)).1 :: W (whr want stp s0 (l.take g.i)).2 :: sl eventR A c l :: L) (fun g => l.length - g.i) (⟨0, none, 0⟩) rfl (Nat.zero_le _) (Gives.trans (Gives.swap _ _ _) (osl_nil eventR 29 none _)) (sub_cons rfl (sub_cons rfl (sub_cons rfl (sub_cons rfl (sub_cons rfl (sub_nil)))))) ?_
  rintro ⟨i, X, cx⟩ hil
  dsimp only at hil ⊢
  refine T_region ?_
  refine TL_y rfl rfl (Y_lt rfl rfl) ?_
  refine TL_nil ?_
  refine T_seq ?_
  refine T_if rfl (fun h11 => ?_) (fun h11 => ?_)
  · refine T_skip ?_
    refine thenS_normal ?_
    refine T_seq ?_
    refine T_block ?_
    obtain ⟨e, he⟩ : ∃ e, l[i]? = some e := ⟨_, List.getElem?_eq_getElem (by omega)⟩
    have hem := List.mem_of_getElem? he
    have hsn := whr_at (want := want) (stp := stp) he s0
    have hwl := whr_len (want := want) (stp := stp) (l.take i) s0
    rw [List.length_take] at hwl
    generalize whr want stp s0 (l.take i) = x at hsn hwl ⊢
    obtain ⟨xs, s⟩ := x
    dsimp only at hsn hwl ⊢
    refine T_region ?_
    refine TL_index_n rfl rfl rfl (rfl) ((sln (A := A) (c := c))) (he) ?_
    intro bn12 on12 hA12 hk12
    have hu12 := he
    refine TL_load_nx rfl rfl hk12 hu12 (fun _ => rfl) ?_
    intro p13 ok13
    simp only [List.cons_append, List.nil_append]
    refine TL_alloc rfl rfl ?_
    intro b7
    refine TL_store rfl rfl rfl rfl rfl rfl ?_
    refine TL_nil ?_
    refine T_region ?_
    refine TL_y rfl rfl (Y_move rfl) ?_
    refine TL_y rfl rfl (Y_load_agg rfl rfl) ?_
    refine TL_gives (show Gives _ (W s :: cells b7 (eventC e p13) 29 :: sl (intR .i64) p13.1 p13.2 e.deps :: osl eventR 29 X cx xs :: sl eventR A c l :: L) from GivesTo.g) ?_
    refine TL_call_fn rfl rfl rfl (hspec s e p13 _ hem ok13 (SlK.n slk)) ?_
    rintro _ _ ⟨rfl, rfl⟩
    refine TL_nil ?_
    refine T_cond rfl (fun h16 => ?_) (fun h16 => ?_)
    · rw [h16] at hsn
      simp only [cond_true] at hsn
      refine T_region_last ?_
      refine TL_y rfl rfl (Y_move rfl) ?_
      refine TL_y rfl rfl (Y_load_agg rfl rfl) ?_
      refine TL_call rfl rfl (ctCopied_spec e p13 (SlK.n slk) ok13) ?_
      rintro _ _ ⟨q, rfl, rfl⟩
      refine TL_freeze_osl ?_
      refine TL_build_slice rfl rfl rfl rfl rfl rfl ?_
      intro b20
      refine TL_osl (k := 1) eventR [e] (cells_one' (ex_rep q (sep_sl slk) ok13)) rfl (by decide) ?_
      refine TL_freeze_osl ?_
      refine TL_name 20 (v' := .slice (some ⟨b20, 0, none⟩) [e].length 1) rfl rfl ?_
      refine TL_append rfl rfl rfl rfl rfl slk (by simp only [List.length_cons, List.length_nil]; omega) ?_
      intro A21 c21
      refine TL_y rfl rfl (Y_assign rfl) ?_
      refine TL_nil ?_
      refine inB_normal ?_
      refine thenS_normal ?_
      refine T_region_last ?_
      refine TL_y rfl rfl (Y_add rfl rfl (by omega)) ?_
      refine TL_name 22 (v' := .int .i64 ((i + 1 : Nat) : Int)) rfl (rfl) ?_
      refine TL_y rfl rfl (Y_move rfl) ?_
      refine TL_nil ?_
      refine thenS_normal ?_
      rw [show xs ++ [e] = (whr want stp s0 (l.take (i + 1))).1 by rw [hsn]]
      rw [show stp s e = (whr want stp s0 (l.take (i + 1))).2 by rw [hsn]]
      exact ⟨⟨i + 1, A21, c21⟩, (by simp only; omega), by simp only; omega, holds_to (sub_cons rfl (sub_cons rfl (sub_cons rfl (sub_cons rfl (sub_cons rfl (sub_nil)))))) GivesTo.g⟩
    · rw [h16] at hsn
      simp only [cond_false, List.append_nil] at hsn
      refine T_skip ?_
      refine inB_normal ?_
      refine thenS_normal ?_
      refine T_region_last ?_
      refine TL_y rfl rfl (Y_add rfl rfl (by omega)) ?_
      refine TL_name 22 (v' := .int .i64 ((i + 1 : Nat) : Int)) rfl (rfl) ?_
      refine TL_y rfl rfl (Y_move rfl) ?_
      refine TL_nil ?_
      refine thenS_normal ?_
      have e1 : xs = (whr want stp s0 (l.take (i + 1))).1 := (congrArg Prod.fst hsn).symm
      rw [show stp s e = (whr want stp s0 (l.take (i + 1))).2 by rw [hsn]]
      clear hsn
      subst e1
      exact ⟨⟨i + 1, X, cx⟩, (by simp only; omega), by simp only; omega, holds_to (sub_cons rfl (sub_cons rfl (sub_cons rfl (sub_cons rfl (sub_cons rfl (sub_nil)))))) GivesTo.g⟩
  · refine T_exit ?_
    refine thenS_exit ?_
    refine thenS_exit ?_
    refine inB_hit ?_
    refine thenS_normal ?_
    refine T_region ?_
    refine TL_y rfl rfl (Y_move rfl) ?_
    refine TL_y rfl rfl (Y_assign rfl) ?_
    refine TL_nil ?_
    refine T_ret ?_
    rw [List.take_of_length_le (show l.length ≤ i by omega)]
    exact RetG_1 (.inl rfl) rfl (ResV.tmp rfl) GivesTo.g (⟨X, cx, rfl, rfl⟩)
end Go.SL
set_option linter.unusedVariables false
set_option linter.unusedSimpArgs false
namespace Go.SL
open Go Go.Proofs
open Go.WideMaps (KeyLaw)
abbrev ArtD := ByteArray × ByteArray
def artK : KeyT ArtD := ⟨fun k => .agg #[.string k.1, .string k.2], fun k => k.1.size ≤ maxEl ∧ k.2.size ≤ maxEl, fun a b h => by
  have h1 := (Value.agg.injEq _ _).mp h
  simp at h1
  exact Prod.ext h1.1 h1.2⟩
theorem ct_laid : laidOutB Try.prog = true := by kernel_rfl
theorem ct_types : ∃ q, Try.prog.types.size = q + 1 := ⟨Try.prog.types.size - 1, by have : 0 < Try.prog.types.size := of_decide_eq_true (by kernel_rfl); omega⟩
theorem art_row : (94 : TypeId) < Try.prog.types.size := of_decide_eq_true (by kernel_rfl)
theorem art_wide : (match Try.prog.underlying 94 with | some (.array _ _) | some (.struct _) => true | _ => false) = true := by rw [Try.underlying94]
set_option maxRecDepth 100000 in
theorem art_law : KeyLaw Try.prog 94 := deep_law_laid ct_laid (m := 2) (by omega) art_row (by kernel_rfl) art_wide
theorem art_cells : Try.prog.cellsOf 94 = 2 := by kernel_rfl
theorem str_cells : Try.prog.cellsOf 9 = 1 := by kernel_rfl
theorem art_key : Try.prog.keyType 94 = true := by kernel_rfl
set_option maxRecDepth 100000 in
theorem art_of (k : ArtD) (h : artK.ok k) : ∃ l, keyOf Try.prog 94 (artK.enc k) = some l := by
  obtain ⟨q, hq⟩ := ct_types
  have h1 : k.1.size ≤ maxLen := by have := h.1; simp only [maxEl] at this; simp only [maxLen]; omega
  have h2 : k.2.size ≤ maxLen := by have := h.2; simp only [maxEl] at this; simp only [maxLen]; omega
  have hf : (artK.enc k).formed Try.prog 94 = true := by simp [artK, Value.formed, Try.underlying94, art_cells]
  refine ⟨.string (keyBytes [.string k.1.data.toList, .string k.2.data.toList]), ?_⟩
  unfold keyOf
  rw [Try.underlying94]
  simp only [art_key, hf, Bool.and_self, if_true]
  rw [hq]
  simp [artK, Program.keyLits, Try.underlying94, Try.underlying9, art_cells, str_cells, Value.cells, h1, h2]
instance : KeyOk Try.prog 94 artK := ⟨Maps.Keyed.of_law art_law, art_of⟩
/-! ### Slices of vectors -/
def vecR : Rep (List Int) := exR 1 (fun (xs : List Int) (p : Option Addr × Nat) => [.slice p.1 xs.length p.2]) (fun (xs : List Int) (p : Option Addr × Nat) => [sl (intR .i64) p.1 p.2 xs]) (fun _ => True) (fun _ _ => rfl) (fun _ _ => rfl)
abbrev SlV := Option Addr × Nat × Nat
def valR : Rep SlV := ⟨1, fun _ x cs => cs = [.slice x.1 x.2.1 x.2.2], fun _ h => h, fun h => by simp [h], fun h v hv => by rw [h] at hv; simp at hv; subst hv; rfl⟩
instance : RepV valR (fun x => .slice x.1 x.2.1 x.2.2) := ⟨fun M x cs h => by rw [h]; rfl⟩
abbrev GC := ArtD × (Option Addr × Nat) × List (List Int)
abbrev mG (G : List GC) : List (ArtD × SlV) := G.map fun g => (g.1, (g.2.1.1, g.2.2.length, g.2.1.2))
abbrev pG (G : List GC) : List (ArtD × List (List Int)) := G.map fun g => (g.1, g.2.2)
abbrev oG (g : GC) : HP := osl vecR 27 g.2.1.1 g.2.1.2 g.2.2
abbrev hoG (G : List GC) : List HP := G.map oG
def slG (G : List GC) : HP := pers (fun M => ∀ g ∈ G, sliceAt M vecR g.2.1.1 g.2.1.2 g.2.2) (fun hM h g hg => (h g hg).mono hM)
theorem slG_lay {L : List HP} {G : List GC} (h : Knows L (fun M => ∀ g ∈ G, sliceAt M vecR g.2.1.1 g.2.1.2 g.2.2)) : Gives L (slG G :: L) := Knows.lay (hm := fun hM h g hg => (h g hg).mono hM) h
def clrP (k : ArtD) (e : EventD) : Bool := e.clears && (decide (e.cart = k.1) && decide (e.sku = k.2))
def clrL (l : List EventD) (k : ArtD) : List (List Int) := (l.filter (clrP k)).map fun e => e.deps
def GIc (l : List EventD) (G : List GC) : Prop := ∀ k, (getM (pG G) k).getD [] = clrL l k
theorem clrL_snoc {l : List EventD} {i : Nat} {e : EventD} (h : l[i]? = some e) (k : ArtD) : clrL (l.take (i + 1)) k = clrL (l.take i) k ++ if clrP k e then [e.deps] else [] := by
  unfold clrL
  rw [takeAt h, List.filter_append, List.map_append]
  by_cases hc : clrP k e = true <;> simp [hc]
theorem clrL_len (l : List EventD) (k : ArtD) : (clrL l k).length ≤ l.length := by unfold clrL; rw [List.length_map]; exact List.length_filter_le _ _
theorem goes_clr {l : List EventD} {e : EventD} : goesC l e ↔ ∃ v ∈ clrL l (e.cart, e.sku), hasV v e.dot := by
  unfold goesC clrL clrP
  constructor
  · rintro ⟨x, hx, h1, h2, h3, h4⟩
    exact ⟨x.deps, List.mem_map.2 ⟨x, List.mem_filter.2 ⟨hx, by simp [h1, h2, h3]⟩, rfl⟩, h4⟩
  · rintro ⟨v, hv, h4⟩
    obtain ⟨x, hx, rfl⟩ := List.mem_map.1 hv
    obtain ⟨h1, h2⟩ := List.mem_filter.1 hx
    simp at h2
    exact ⟨x, h1, h2.1, h2.2.1, h2.2.2, h4⟩
theorem ndG {G : List GC} : ND (mG G) ↔ ND (pG G) := by
  unfold ND mG pG
  rw [List.pairwise_map, List.pairwise_map]
theorem getG {G : List GC} {k : ArtD} : getM (mG G) k = none ↔ getM (pG G) k = none := by
  rw [getM_none, getM_none]
  constructor
  · intro h p hp; obtain ⟨g, hg, rfl⟩ := List.mem_map.1 hp; exact h _ (List.mem_map.2 ⟨g, hg, rfl⟩)
  · intro h p hp; obtain ⟨g, hg, rfl⟩ := List.mem_map.1 hp; exact h _ (List.mem_map.2 ⟨g, hg, rfl⟩)
theorem GIc.skip {l : List EventD} {i : Nat} {e : EventD} {G : List GC} (h : GIc (l.take i) G) (he : l[i]? = some e) (hc : e.clears = false) : GIc (l.take (i + 1)) G := fun k => by
  rw [h k, clrL_snoc he]
  simp [clrP, hc]
theorem GIc.put {l : List EventD} {i : Nat} {e : EventD} {G G' : List GC} {ys : List (List Int)} (h : GIc (l.take i) G) (he : l[i]? = some e) (hc : e.clears = true) (hys : (getM (pG G) (e.cart, e.sku)).getD [] = ys) (hp : (((e.cart, e.sku), ys ++ [e.deps]) :: delM (pG G) (e.cart, e.sku)).Perm (pG G')) (hn : ND (pG G)) : GIc (l.take (i + 1)) G' := fun k => by
  have hn2 : ND (((e.cart, e.sku), ys ++ [e.deps]) :: delM (pG G) (e.cart, e.sku)) := nd_put hn _ _
  rw [← getM_perm hp hn2 k, getM_cons, getM_del, clrL_snoc he]
  by_cases hk : (e.cart, e.sku) = k
  · subst hk
    rw [if_pos rfl, ← h, hys]
    simp [clrP, hc]
  · rw [if_neg hk, if_neg (fun h => hk h.symm), h k]
    have : clrP k e = false := by
      unfold clrP
      rw [hc]
      by_cases h1 : e.cart = k.1 <;> by_cases h2 : e.sku = k.2 <;> simp [h1, h2]
      exact absurd (Prod.ext h1 h2) hk
    rw [this]; simp
theorem find_G {G : List GC} {k : ArtD} {u : SlV} (h : getM (mG G) k = some u) : ∃ (j : Nat) (g : GC), G[j]? = some g ∧ g.1 = k ∧ u = (g.2.1.1, g.2.2.length, g.2.1.2) := by
  obtain ⟨g, hg, e⟩ := List.mem_map.1 (getM_mem h)
  obtain ⟨j, hj⟩ := List.getElem?_of_mem hg
  have e1 := congrArg Prod.fst e
  have e2 := congrArg Prod.snd e
  exact ⟨j, g, hj, e1, e2.symm⟩
theorem get_G {G : List GC} (hn : ND (pG G)) {j : Nat} {g : GC} {k : ArtD} (hj : G[j]? = some g) (hk : g.1 = k) : getM (pG G) k = some g.2.2 := getM_of_mem hn (List.mem_map.2 ⟨g, List.mem_of_getElem? hj, by rw [hk]⟩)
theorem perm_G {G : List GC} (hn : ND (mG G)) {j : Nat} {g : GC} {k : ArtD} (hj : G[j]? = some g) (hk : g.1 = k) (x : (Option Addr × Nat) × List (List Int)) : ((k, (x.1.1, x.2.length, x.1.2)) :: delM (mG G) k).Perm (mG (G.set j (k, x))) := by
  have h1 : (mG G)[j]? = some (k, (g.2.1.1, g.2.2.length, g.2.1.2)) := by rw [List.getElem?_map, hj, ← hk]; rfl
  rw [delM_erase hn h1, show mG (G.set j (k, x)) = (mG G).set j (k, (x.1.1, x.2.length, x.1.2)) from List.map_set]
  exact (set_perm (by rw [List.length_map]; exact (List.getElem?_eq_some_iff.1 hj).1)).symm
theorem perm_P {G : List GC} (hn : ND (pG G)) {j : Nat} {g : GC} {k : ArtD} (hj : G[j]? = some g) (hk : g.1 = k) (x : (Option Addr × Nat) × List (List Int)) : ((k, x.2) :: delM (pG G) k).Perm (pG (G.set j (k, x))) := by
  have h1 : (pG G)[j]? = some (k, g.2.2) := by rw [List.getElem?_map, hj, ← hk]; rfl
  rw [delM_erase hn h1, show pG (G.set j (k, x)) = (pG G).set j (k, x.2) from List.map_set]
  exact (set_perm (by rw [List.length_map]; exact (List.getElem?_eq_some_iff.1 hj).1)).symm
section
variable {r : Option Nat} {n : Nat} {P : Program} {ops : Array Oper} {rest : List Oper} {K : St → Prop} {Q : Exit → St → Prop} {D : List Deferred} {E : Env} {L : List HP}
theorem TL_isv {α : Type} {R : Rep α} {f : α → Value} [hv : RepV R f] {u : α} {cs : List Value} (h : wrapV false cs = f u → TL r n P ops rest ⟨D, E, L⟩ K) : TL r n P ops rest ⟨D, E, is R u cs :: L⟩ K := fun W a w hh => by
  obtain ⟨M, k, _, _, _, h1, h2, _, _, _, hi, _⟩ := hh.2.ex
  exact h (hv.e _ _ _ hi) W a w ⟨hh.1, hh.2.gives (Gives.drop _ _)⟩
theorem sat_freezeG {W w : World} : ∀ (G : List GC) (L : List HP), Sat W w (allH (hoG G) :: L) → Sat W w (slG G :: L)
  | [], L, h => (h.gives (Gives.drop _ _)).gives (slG_lay (Knows.const fun M g hg => by cases hg))
  | g :: G, L, h => by
    have h1 : Sat W w (oG g :: allH (hoG G) :: L) := h.gives ((unS_open (L := hoG (g :: G))).trans (Gives.cons _ unS_close))
    have h2 := (freeze_osl h1).gives (Gives.swap _ _ _)
    have h3 := sat_freezeG G _ h2
    refine h3.gives (Gives.trans (slG_lay (G := g :: G) ?_) (Gives.cons _ ((Gives.drop _ _).trans (Gives.drop _ _))))
    intro M m hs x hx
    obtain ⟨_, _, _, _, _, ha, _, _, _, _, _, hb, _⟩ := hs
    rcases List.mem_cons.1 hx with rfl | hx
    · exact hb
    · exact ha x hx
theorem T_freezeG {c : Code} {G : List GC} (h : T r n P c ⟨D, E, slG G :: L⟩ Q) : T r n P c ⟨D, E, allH (hoG G) :: L⟩ Q := fun W a w hh => h W a w ⟨hh.1, sat_freezeG _ _ hh.2⟩
end
structure ClSt where
  i : Nat
  G : List GC
theorem clears_spec {L : List HP} {A : Option Addr} {c : Nat} {l : List EventD} (hk : SlK L eventR A c l) (hl : l.length ≤ 1466015503701) : Fn Try.prog 63 #[.slice A l.length c] L (fun v L' => ∃ bm G, v = .map (some bm) ∧ L' = omap artK valR false bm (mG G) :: slG G :: L ∧ GIc l G) := by
  refine Fn_enter Try.func63 rfl rfl rfl rfl ?_
  refine T_gives hk.lay ?_
  refine T_region ?_
  refine TL_y rfl rfl (Y_assign rfl) ?_
  refine TL_nil ?_
  refine T_region ?_
  refine TL_makeMap artK valR false rfl ?_
  intro bm
  refine TL_y rfl rfl (Y_assign rfl) ?_
  refine TL_nil ?_
  refine T_seq ?_
  refine T_gives (Gives.trans (unS_close (L := [])) (Gives.swap _ _ _)) ?_
  refine T_region ?_
  refine TL_y rfl rfl (Y_move rfl) ?_
  refine TL_y rfl rfl (Y_len rfl) ?_
  refine TL_y rfl rfl (Y_move rfl) ?_
  refine TL_nil ?_
  refine T_block ?_
  refine T_loopK (σ := ClSt) [3, 8, 9] (fun g => g.i ≤ l.length ∧ GIc (l.take g.i) g.G) (fun g kv => (10, .int .i64 (g.i : Int)) :: kv) (fun g => omap artK valR false bm (mG g.G) :: allH (hoG g.G) :: sl eventR A c l :: L) (fun g => l.length - g.i) (⟨0, []⟩) rfl (⟨Nat.zero_le _, fun k => rfl⟩) (Gives.refl _) (sub_cons rfl (sub_cons rfl (sub_cons rfl (sub_cons rfl (sub_nil))))) ?_
  rintro ⟨i, G⟩ ⟨hil, hG⟩
  dsimp only at hil hG ⊢
  refine T_region ?_
  refine TL_y rfl rfl (Y_lt rfl rfl) ?_
  refine TL_nil ?_
  refine T_seq ?_
  refine T_if rfl (fun h11 => ?_) (fun h11 => ?_)
  · refine T_skip ?_
    refine thenS_normal ?_
    refine T_seq ?_
    refine T_block ?_
    obtain ⟨e, he⟩ : ∃ e, l[i]? = some e := ⟨_, List.getElem?_eq_getElem (by omega)⟩
    refine T_nd (b := bm) fun hnd => ?_
    refine T_region ?_
    refine TL_index_n rfl rfl rfl (rfl) ((sln (A := A) (c := c))) (he) ?_
    intro bn12 on12 hA12 hk12
    have hu12 := he
    refine TL_load_nx rfl rfl hk12 hu12 (fun _ => rfl) ?_
    intro p13 ok13
    simp only [List.cons_append, List.nil_append]
    refine TL_alloc rfl rfl ?_
    intro b5
    refine TL_store rfl rfl rfl rfl rfl rfl ?_
    refine TL_nil ?_
    refine T_region ?_
    refine TL_y rfl rfl (Y_field_addr rfl) ?_
    refine TL_y rfl rfl (Y_load rfl rfl) ?_
    refine TL_nil ?_
    refine T_cond rfl (fun hcl => ?_) (fun hcl => ?_)
    · refine T_region ?_
      refine TL_y rfl rfl (Y_field_addr rfl) ?_
      refine TL_y rfl rfl (Y_load rfl rfl) ?_
      refine TL_y rfl rfl (Y_field_addr rfl) ?_
      refine TL_y rfl rfl (Y_load rfl rfl) ?_
      refine TL_y rfl rfl (Y_build rfl rfl) ?_
      refine TL_alloc rfl rfl ?_
      intro b6
      refine TL_store rfl rfl rfl rfl rfl rfl ?_
      refine TL_nil ?_
      refine T_region_last ?_
      refine TL_y rfl rfl (Y_move rfl) ?_
      refine TL_y rfl rfl (Y_load_agg rfl rfl) ?_
      refine TL_y rfl rfl (Y_field_addr rfl) ?_
      refine TL_y rfl rfl (Y_load rfl rfl) ?_
      refine TL_build_slice rfl rfl rfl rfl rfl rfl ?_
      intro b26
      refine TL_osl (k := 1) vecR [e.deps] (cells_one' (ex_rep p13 (sep_sl slk) trivial)) rfl (by decide) ?_
      refine TL_freeze_osl ?_
      refine TL_name 26 (v' := .slice (some ⟨b26, 0, none⟩) [e.deps].length 1) rfl rfl ?_
      refine TL_mapEntry (K := artK) (R := valR) (k := (e.cart, e.sku)) rfl rfl rfl ⟨ok13.2.2.2.1, ok13.2.2.2.2.2.1⟩ (fun born hg0 => ?_) (fun u cs born hg1 => ?_)
      · refine TL_y rfl rfl (Y_extract rfl rfl) ?_
        refine TL_onil (A := none) vecR 27 ?_
        refine TL_append (R := vecR) (xs := []) rfl rfl rfl rfl rfl slk (by simp only [List.length_cons, List.length_nil]; omega) ?_
        intro A28 c28
        refine TL_y rfl rfl (Y_extract rfl rfl) ?_
        refine TL_entryStore (u := (A28, ([] ++ [e.deps] : List (List Int)).length, c28)) (cs := [.slice A28 ([] ++ [e.deps] : List (List Int)).length c28]) (mG (G ++ [((e.cart, e.sku), (A28, c28), [] ++ [e.deps])])) rfl rfl rfl (Knows.const fun M => rfl) (by rw [del_none hg0]; simp only [mG, List.map_append, List.map_cons, List.map_nil]; exact (List.perm_append_singleton _ _).symm) ?_
        refine TL_nil ?_
        refine inB_normal ?_
        refine thenS_normal ?_
        refine T_gives (show Gives _ (oG ((e.cart, e.sku), (A28, c28), [] ++ [e.deps]) :: allH (hoG G) :: _) from (FindHP.g (p := osl vecR 27 A28 c28 ([] ++ [e.deps]))).trans (Gives.cons _ (FindHP.g (p := allH (hoG G))))) ?_
        refine T_gives (show Gives _ (allH (hoG (G ++ [((e.cart, e.sku), (A28, c28), [] ++ [e.deps])])) :: _) from unS_snoc (f := oG) (bs := G) (b := ((e.cart, e.sku), (A28, c28), [] ++ [e.deps]))) ?_
        refine T_region_last ?_
        refine TL_y rfl rfl (Y_add rfl rfl (by omega)) ?_
        refine TL_name 30 (v' := .int .i64 ((i + 1 : Nat) : Int)) rfl (rfl) ?_
        refine TL_y rfl rfl (Y_move rfl) ?_
        refine TL_nil ?_
        refine thenS_normal ?_
        exact ⟨⟨i + 1, G ++ [((e.cart, e.sku), (A28, c28), [] ++ [e.deps])]⟩, ⟨by simp only; omega, hG.put he hcl (ys := []) (by rw [getG.1 hg0]; rfl) (by rw [del_none (getG.1 hg0)]; simp only [pG, List.map_append, List.map_cons, List.map_nil]; exact (List.perm_append_singleton _ _).symm) (ndG.1 hnd)⟩, by simp only; omega, holds_to (sub_cons rfl (sub_cons rfl (sub_cons rfl (sub_cons rfl (sub_nil))))) GivesTo.g⟩
      · refine TL_isv fun hcs => ?_
        rw [hcs]
        obtain ⟨j, g, hgj, hgk, hgu⟩ := find_G hg1
        subst hgu
        have hys : (getM (pG G) (e.cart, e.sku)).getD [] = g.2.2 := (by rw [get_G (ndG.1 hnd) hgj hgk]; rfl)
        have hyl : g.2.2.length ≤ l.length := (by rw [← hys, hG]; exact Nat.le_trans (clrL_len _ _) (by rw [List.length_take]; omega))
        refine TL_y rfl rfl (Y_extract rfl rfl) ?_
        refine TL_gives (show Gives _ (allH (hoG G) :: _) from FindHP.g) ?_
        refine TL_gives (allH_take (show (hoG G)[j]? = some (oG g) by rw [List.getElem?_map, hgj]; rfl)) ?_
        refine TL_append rfl rfl rfl rfl rfl slk (by simp only [List.length_cons, List.length_nil]; omega) ?_
        intro A28 c28
        refine TL_y rfl rfl (Y_extract rfl rfl) ?_
        refine TL_entryStore (u := (A28, (g.2.2 ++ [e.deps]).length, c28)) (cs := [.slice A28 (g.2.2 ++ [e.deps]).length c28]) (mG (G.set j ((e.cart, e.sku), (A28, c28), g.2.2 ++ [e.deps]))) rfl rfl rfl (Knows.const fun M => rfl) (perm_G hnd hgj hgk ((A28, c28), g.2.2 ++ [e.deps])) ?_
        refine TL_nil ?_
        refine inB_normal ?_
        refine thenS_normal ?_
        refine T_gives (show Gives _ (oG ((e.cart, e.sku), (A28, c28), g.2.2 ++ [e.deps]) :: allH ((hoG G).set j hole) :: _) from (FindHP.g (p := osl vecR 27 A28 c28 (g.2.2 ++ [e.deps]))).trans (Gives.cons _ FindHP.g)) ?_
        refine T_gives (allH_put (by rw [List.length_map]; exact (List.getElem?_eq_some_iff.1 hgj).1)) ?_
        rw [show (hoG G).set j (oG ((e.cart, e.sku), (A28, c28), g.2.2 ++ [e.deps])) = hoG (G.set j ((e.cart, e.sku), (A28, c28), g.2.2 ++ [e.deps])) from List.map_set.symm]
        refine T_region_last ?_
        refine TL_y rfl rfl (Y_add rfl rfl (by omega)) ?_
        refine TL_name 30 (v' := .int .i64 ((i + 1 : Nat) : Int)) rfl (rfl) ?_
        refine TL_y rfl rfl (Y_move rfl) ?_
        refine TL_nil ?_
        refine thenS_normal ?_
        exact ⟨⟨i + 1, G.set j ((e.cart, e.sku), (A28, c28), g.2.2 ++ [e.deps])⟩, ⟨by simp only; omega, hG.put he hcl hys (perm_P (ndG.1 hnd) hgj hgk ((A28, c28), g.2.2 ++ [e.deps])) (ndG.1 hnd)⟩, by simp only; omega, holds_to (sub_cons rfl (sub_cons rfl (sub_cons rfl (sub_cons rfl (sub_nil))))) GivesTo.g⟩
    · refine T_skip ?_
      refine inB_normal ?_
      refine thenS_normal ?_
      refine T_region_last ?_
      refine TL_y rfl rfl (Y_add rfl rfl (by omega)) ?_
      refine TL_name 30 (v' := .int .i64 ((i + 1 : Nat) : Int)) rfl (rfl) ?_
      refine TL_y rfl rfl (Y_move rfl) ?_
      refine TL_nil ?_
      refine thenS_normal ?_
      exact ⟨⟨i + 1, G⟩, ⟨by simp only; omega, hG.skip he hcl⟩, by simp only; omega, holds_to (sub_cons rfl (sub_cons rfl (sub_cons rfl (sub_cons rfl (sub_nil))))) GivesTo.g⟩
  · refine T_exit ?_
    refine thenS_exit ?_
    refine thenS_exit ?_
    refine inB_hit ?_
    refine thenS_normal ?_
    rw [List.take_of_length_le (show l.length ≤ i by omega)] at hG
    refine T_pull 1 rfl ?_
    refine T_freezeG ?_
    refine T_region ?_
    refine TL_y rfl rfl (Y_move rfl) ?_
    refine TL_y rfl rfl (Y_assign rfl) ?_
    refine TL_nil ?_
    refine T_ret ?_
    refine RetQ.gives (show Gives _ (omap artK valR false bm (mG G) :: slG G :: L) from GivesTo.g) ?_
    exact RetG_1 (.inl rfl) rfl (ResV.tmp rfl) GivesTo.g (⟨bm, G, rfl, rfl, hG⟩)
end Go.SL
set_option linter.unusedVariables false
set_option linter.unusedSimpArgs false
namespace Go.SL
open Go Go.Proofs
theorem standV_spec {L : List HP} {b2 : Nat} {e : EventD} {q p : Option Addr × Nat} (xs : List Int) (hk : SlN L (intR .i64) p.1 p.2 xs) : Fn Try.prog 66 #[.slice p.1 xs.length p.2, .pointer (some ⟨b2, 0, none⟩)] (cells b2 (eventC e q) 29 :: L) (fun v L' => v = .bool (decide (hasV xs e.dot)) ∧ L' = cells b2 (eventC e q) 29 :: L) := by
  refine Fn_enter Try.func66 rfl rfl rfl rfl ?_
  refine T_region ?_
  refine TL_y rfl rfl (Y_assign rfl) ?_
  refine TL_nil ?_
  refine T_region ?_
  refine TL_y rfl rfl (Y_move rfl) ?_
  refine TL_y rfl rfl (Y_field_addr rfl) ?_
  refine TL_y rfl rfl (Y_load_agg rfl rfl) ?_
  refine TL_call rfl rfl (vvHas_spec hk.tail e.dot) ?_
  rintro _ _ ⟨rfl, rfl⟩
  refine TL_y rfl rfl (Y_assign rfl) ?_
  refine TL_nil ?_
  refine T_ret ?_
  exact RetG_1 (.inl rfl) rfl (ResV.tmp rfl) GivesTo.g (⟨rfl, rfl⟩)
theorem indexV_spec {L : List HP} {A : Option Addr} {c b2 : Nat} {e : EventD} {q : Option Addr × Nat} {ys : List (List Int)} (hk : SlK L vecR A c ys) : Fn Try.prog 82 #[.slice A ys.length c, .func (.func 66) #[] #[.pointer (some ⟨b2, 0, none⟩)]] (cells b2 (eventC e q) 29 :: L) (fun v L' => ∃ r : Int, v = .int .i64 r ∧ L' = cells b2 (eventC e q) 29 :: L ∧ (0 ≤ r ↔ ∃ x ∈ ys, hasV x e.dot)) := by
  refine Fn_enter Try.func82 rfl rfl rfl rfl ?_
  refine T_gives (SlK.lay hk.tail) ?_
  refine SlN.lens (sln (A := A) (c := c)) fun hl => ?_
  simp only [maxEl] at hl
  refine T_region ?_
  refine TL_y rfl rfl (Y_assign rfl) ?_
  refine TL_nil ?_
  refine T_seq ?_
  refine T_region ?_
  refine TL_y rfl rfl (Y_move rfl) ?_
  refine TL_y rfl rfl (Y_len rfl) ?_
  refine TL_y rfl rfl (Y_move rfl) ?_
  refine TL_nil ?_
  refine T_block ?_
  refine T_loopK (σ := Nat) [0, 1, 7] (fun i => i ≤ ys.length ∧ ∀ x ∈ ys.take i, ¬ hasV x e.dot) (fun i kv => (8, .int .i64 (i : Int)) :: kv) (fun i => cells b2 (eventC e q) 29 :: sl vecR A c ys :: L) (fun i => ys.length - i) (0) rfl (⟨Nat.zero_le _, by simp⟩) (GivesTo.g) (sub_cons rfl (sub_cons rfl (sub_cons rfl (sub_cons rfl (sub_nil))))) ?_
  intro i hi
  refine T_region ?_
  refine TL_y rfl rfl (Y_lt rfl rfl) ?_
  refine TL_nil ?_
  refine T_seq ?_
  refine T_if rfl (fun h9 => ?_) (fun h9 => ?_)
  · refine T_skip ?_
    refine thenS_normal ?_
    refine T_seq ?_
    refine T_block ?_
    obtain ⟨x, hx⟩ : ∃ x, ys[i]? = some x := ⟨_, List.getElem?_eq_getElem (by omega)⟩
    refine T_region ?_
    refine TL_y rfl rfl (Y_move rfl) ?_
    refine TL_y rfl rfl (Y_assign rfl) ?_
    refine TL_nil ?_
    refine T_region ?_
    refine TL_y rfl rfl (Y_move rfl) ?_
    refine TL_y rfl rfl (Y_move rfl) ?_
    refine TL_y rfl rfl (Y_move rfl) ?_
    refine TL_index_n rfl rfl rfl (rfl) ((sln (A := A) (c := c))) (hx) ?_
    intro bn14 on14 hA14 hk14
    have hu14 := hx
    refine TL_load_nx1 rfl rfl hk14 hu14 (fun _ => rfl) ?_
    intro p15 ok15
    simp only [List.cons_append, List.nil_append]
    refine TL_pullc b2 ?_
    refine TL_call_fn rfl rfl rfl (standV_spec x (SlK.n slk)) ?_
    rintro _ _ ⟨rfl, rfl⟩
    refine TL_nil ?_
    refine T_if rfl (fun h16 => ?_) (fun h16 => ?_)
    · refine T_region ?_
      refine TL_y rfl rfl (Y_move rfl) ?_
      refine TL_y rfl rfl (Y_assign rfl) ?_
      refine TL_nil ?_
      refine T_ret ?_
      refine inB_ret ?_
      refine thenS_ret ?_
      refine thenS_ret ?_
      refine inB_ret ?_
      refine thenS_ret ?_
      exact RetG_1 (.inl rfl) rfl (ResV.tmp rfl) GivesTo.g (⟨_, rfl, rfl, ⟨fun _ => ⟨x, List.mem_of_getElem? hx, h16⟩, fun _ => by omega⟩⟩)
    · refine T_skip ?_
      refine inB_normal ?_
      refine thenS_normal ?_
      refine T_region_last ?_
      refine TL_y rfl rfl (Y_add rfl rfl (by omega)) ?_
      refine TL_name 18 (v' := .int .i64 ((i + 1 : Nat) : Int)) rfl (rfl) ?_
      refine TL_y rfl rfl (Y_move rfl) ?_
      refine TL_nil ?_
      refine thenS_normal ?_
      exact ⟨i + 1, ⟨by omega, by rw [takeAt hx]; intro y hy; rcases List.mem_append.1 hy with h | h; exact hi.2 y h; (simp at h; subst h; exact h16)⟩, by omega, holds_to (sub_cons rfl (sub_cons rfl (sub_cons rfl (sub_cons rfl (sub_nil))))) GivesTo.g⟩
  · refine T_exit ?_
    refine thenS_exit ?_
    refine thenS_exit ?_
    refine inB_hit ?_
    refine thenS_normal ?_
    refine T_region ?_
    refine TL_y rfl rfl (Y_assign rfl) ?_
    refine TL_nil ?_
    refine T_ret ?_
    have hno := hi.2
    rw [List.take_of_length_le (show ys.length ≤ i by omega)] at hno
    exact RetG_1 (.inl rfl) rfl (ResV.tmp rfl) GivesTo.g (⟨_, rfl, rfl, ⟨fun h => absurd h (by omega), fun ⟨x, h1, h2⟩ => absurd h2 (hno x h1)⟩⟩)
theorem containsV_spec {L : List HP} {A : Option Addr} {c b2 : Nat} {e : EventD} {q : Option Addr × Nat} {ys : List (List Int)} (hk : SlK L vecR A c ys) : Fn Try.prog 65 #[.slice A ys.length c, .func (.func 66) #[] #[.pointer (some ⟨b2, 0, none⟩)]] (cells b2 (eventC e q) 29 :: L) (fun v L' => v = .bool (decide (∃ x ∈ ys, hasV x e.dot)) ∧ L' = cells b2 (eventC e q) 29 :: L) := by
  refine Fn_enter Try.func65 rfl rfl rfl rfl ?_
  refine T_region ?_
  refine TL_y rfl rfl (Y_assign rfl) ?_
  refine TL_nil ?_
  refine T_region ?_
  refine TL_y rfl rfl (Y_move rfl) ?_
  refine TL_y rfl rfl (Y_move rfl) ?_
  refine TL_call rfl rfl (indexV_spec hk) ?_
  rintro _ _ ⟨r, rfl, rfl, hr⟩
  refine TL_y rfl rfl (Y_ge rfl rfl) ?_
  refine TL_y rfl rfl (Y_assign rfl) ?_
  refine TL_nil ?_
  refine T_ret ?_
  exact RetG_1 (.inl rfl) rfl (ResV.tmp rfl) GivesTo.g (⟨congrArg Value.bool (decide_eq_decide.2 hr), rfl⟩)
theorem slG_at {L L0 : List HP} {G : List GC} {g : GC} [h : FindHP L (slG G) L0] (hg : g ∈ G) : Gives L (sl vecR g.2.1.1 g.2.1.2 g.2.2 :: L) := SlK.lay fun M m hs => by
  obtain ⟨_, _, _, _, _, h1, _⟩ := h.g M m hs
  exact h1 g hg
def wStand (bb bm : Nat) (G : List GC) : HP := unS [cells bb [.map (some bm)] 89, omap artK valR false bm (mG G), slG G]
theorem stand1_spec {L : List HP} {bb bm : Nat} {G : List GC} {l : List EventD} (hG : GIc l G) (e : EventD) (q : Option Addr × Nat) (ho : eventOk e) : Fn Try.prog 64 #[evV e q, .pointer (some ⟨bb, 0, none⟩)] (wStand bb bm G :: L) (fun v L' => v = .bool (!decide (goesC l e)) ∧ L' = wStand bb bm G :: L) := by
  refine Fn_enter Try.func64 rfl rfl rfl rfl ?_
  refine T_gives (show Gives _ (cells bb [.map (some bm)] 89 :: omap artK valR false bm (mG G) :: slG G :: L) from unS_open) ?_
  refine T_nd (b := bm) fun hnd => ?_
  refine T_region ?_
  refine TL_box rfl rfl rfl ?_
  intro b2
  refine TL_y rfl rfl (Y_assign rfl) ?_
  refine TL_nil ?_
  refine T_region ?_
  refine TL_y rfl rfl (Y_load rfl rfl) ?_
  refine TL_y rfl rfl (Y_field_addr rfl) ?_
  refine TL_y rfl rfl (Y_load rfl rfl) ?_
  refine TL_y rfl rfl (Y_field_addr rfl) ?_
  refine TL_y rfl rfl (Y_load rfl rfl) ?_
  refine TL_y rfl rfl (Y_build rfl rfl) ?_
  refine TL_lookup (K := artK) (R := valR) (k := (e.cart, e.sku)) rfl rfl rfl ⟨ho.2.2.2.1, ho.2.2.2.2.2.1⟩ (fun hg0 => ?_) (fun u cs hg1 => ?_)
  · refine TL_y rfl rfl (Y_make_func rfl rfl) ?_
    refine TL_pullc b2 ?_
    refine TL_call rfl rfl (containsV_spec (A := none) (c := 0) (ys := []) slnil) ?_
    rintro _ _ ⟨rfl, rfl⟩
    refine TL_y rfl rfl (Y_not rfl) ?_
    refine TL_y rfl rfl (Y_assign rfl) ?_
    refine TL_nil ?_
    refine T_ret ?_
    have hgo : goesC l e ↔ ∃ x ∈ ([] : List (List Int)), hasV x e.dot := (by rw [goes_clr, ← hG, getG.1 hg0]; rfl)
    refine RetQ.gives (show Gives _ (cells bb [.map (some bm)] 89 :: omap artK valR false bm (mG G) :: slG G :: L) from GivesTo.g) ?_
    refine RetQ.gives (show Gives _ (wStand bb bm G :: L) from unS_close (L := [cells bb [.map (some bm)] 89, omap artK valR false bm (mG G), slG G])) ?_
    exact RetG_1 (.inl rfl) rfl (ResV.tmp rfl) GivesTo.g (⟨congrArg Value.bool (by simp only [hgo]), rfl⟩)
  · refine TL_isv fun hcs => ?_
    rw [hcs]
    obtain ⟨j, g, hgj, hgk, hgu⟩ := find_G hg1
    subst hgu
    have hys : (getM (pG G) (e.cart, e.sku)).getD [] = g.2.2 := (by rw [get_G (ndG.1 hnd) hgj hgk]; rfl)
    refine TL_gives (slG_at (G := G) (List.mem_of_getElem? hgj)) ?_
    refine TL_y rfl rfl (Y_make_func rfl rfl) ?_
    refine TL_pullc b2 ?_
    refine TL_call rfl rfl (containsV_spec (ys := g.2.2) slk) ?_
    rintro _ _ ⟨rfl, rfl⟩
    refine TL_y rfl rfl (Y_not rfl) ?_
    refine TL_y rfl rfl (Y_assign rfl) ?_
    refine TL_nil ?_
    refine T_ret ?_
    have hgo : goesC l e ↔ ∃ x ∈ g.2.2, hasV x e.dot := (by rw [goes_clr, ← hG, hys])
    refine RetQ.gives (show Gives _ (cells bb [.map (some bm)] 89 :: omap artK valR false bm (mG G) :: slG G :: L) from GivesTo.g) ?_
    refine RetQ.gives (show Gives _ (wStand bb bm G :: L) from unS_close (L := [cells bb [.map (some bm)] 89, omap artK valR false bm (mG G), slG G])) ?_
    exact RetG_1 (.inl rfl) rfl (ResV.tmp rfl) GivesTo.g (⟨congrArg Value.bool (by simp only [hgo]), rfl⟩)
theorem stand_spec {L : List HP} {A : Option Addr} {c : Nat} {l : List EventD} (hk : SlK L eventR A c l) (hl : l.length ≤ 1466015503701) : Fn Try.prog 36 #[.slice A l.length c] L (fun v L' => ∃ A' c', v = .slice A' (standC l).length c' ∧ L' = osl eventR 29 A' c' (standC l) :: L) := by
  refine Fn_enter Try.func36 rfl rfl rfl rfl ?_
  refine T_gives hk.lay ?_
  refine T_region ?_
  refine TL_y rfl rfl (Y_assign rfl) ?_
  refine TL_nil ?_
  refine T_region ?_
  refine TL_y rfl rfl (Y_move rfl) ?_
  refine TL_call rfl rfl (clears_spec slk hl) ?_
  rintro _ _ ⟨bm, G, rfl, rfl, hG⟩
  refine TL_alloc rfl rfl ?_
  intro b3
  refine TL_store rfl rfl rfl rfl rfl rfl ?_
  refine TL_nil ?_
  refine T_region ?_
  refine TL_y rfl rfl (Y_move rfl) ?_
  refine TL_y rfl rfl (Y_make_func rfl rfl) ?_
  refine TL_gives (show Gives _ (cells b3 [.map (some bm)] 89 :: omap artK valR false bm (mG G) :: slG G :: sl eventR A c l :: L) from GivesTo.g) ?_
  refine TL_gives (show Gives _ (wStand b3 bm G :: sl eventR A c l :: L) from unS_close (L := [cells b3 [.map (some bm)] 89, omap artK valR false bm (mG G), slG G])) ?_
  refine TL_call rfl rfl (where_spec (σ := Unit) (fun _ ↦ wStand b3 bm G) (fun _ e ↦ !decide (goesC l e)) (fun s _ ↦ s) 64 [.pointer (some ⟨b3, 0, none⟩)] () (fun s e q L1 _ ho hk1 ↦ stand1_spec hG e q ho) slk hl) ?_
  rintro _ _ ⟨A8, c8, rfl, rfl⟩
  rw [show (whr (fun (_ : Unit) e => !decide (goesC l e)) (fun s _ => s) () l).1 = standC l from whr_filter _ l]
  refine TL_y rfl rfl (Y_assign rfl) ?_
  refine TL_nil ?_
  refine T_ret ?_
  exact RetG_1 (.inl rfl) rfl (ResV.tmp rfl) GivesTo.g (⟨A8, c8, rfl, rfl⟩)
end Go.SL
set_option linter.unusedVariables false
set_option linter.unusedSimpArgs false
namespace Go.SL
open Go Go.Proofs
theorem endr {κ α : Type} [DecidableEq κ] {K : KeyT κ} {R : Rep α} {ag : Bool} {b : Nat} {m done : List (κ × α)} {L L0 : List HP} (it : Nat) [hf : FindG L it b κ α K R ag m done L0] : Gives L (omap K R ag b m :: L0) := hf.g.trans mrange_end
structure GaSt where
  xs : List Int
  A : Option Addr
  c : Nat
def gaStep : LS GaSt → Int → LS GaSt → Prop := fun s x s' => s'.2 = none ∧ s'.1.xs = s.1.xs ++ [x]
/-! ### A map's keys -/
end Go.SL
set_option linter.unusedVariables false
set_option linter.unusedSimpArgs false
namespace Go.Proofs
open Go.Shelf
end Go.Proofs
namespace Go.SL
open Go Go.Proofs
def srt (xs : List Int) : List Int := xs.mergeSort fun x y => decide (x ≤ y)
theorem Sat.ahead {o w : World} {L : List HP} (h : Sat o w L) (n : Nat) : Sat o (Go.Sort.ahead w n) L := ⟨h.ex, h.os, h.tape, h.output, h.size⟩
theorem Sat.grow {o w : World} {L : List HP} (h : Sat o w L) (xs : Array Obj) : Sat o (Go.Sort.grow w xs) L := by
  obtain ⟨M, k, hd, hM, hk, hs⟩ := h.ex
  have hle : (heapOf w).le (heapOf (Go.Sort.grow w xs)) := fun b x hb => by
    have hlt := (Array.getElem?_eq_some_iff.1 (show w.heap[b]? = some x from hb)).1
    show (Go.Sort.grow w xs).heap[b]? = some x
    rw [Go.Sort.heap_grow_old w xs hlt]; exact hb
  exact ⟨⟨M, k, hd, Mem.le_trans hM hle, Mem.le_trans hk hle, hs⟩, h.os, h.tape, h.output, Nat.le_trans h.size (by simp [Go.Sort.grow])⟩
end Go.SL
set_option linter.unusedVariables false
set_option linter.unusedSimpArgs false
namespace Go.SL
open Go Go.Proofs
end Go.SL
set_option linter.unusedVariables false
set_option linter.unusedSimpArgs false
namespace Go.Proofs
open Go.Shelf
shelf_lay Lays.n190 Nm 190 at Try as Try.lays190
end Go.Proofs
namespace Go.SL
open Go Go.Proofs
def dataL (s : ByteArray) : List UInt8 := s.data.toList
def undata (l : List UInt8) : ByteArray := ⟨l.toArray⟩
theorem undata_data (s : ByteArray) : undata (dataL s) = s := by cases s; simp [undata, dataL]
def srtL (ss : List (List UInt8)) : List (List UInt8) := ss.mergeSort fun x y => decide (x ≤ y)
def srtS (xs : List ByteArray) : List ByteArray := (srtL (xs.map dataL)).map undata
theorem srtS_perm (xs : List ByteArray) : (srtS xs).Perm xs := by
  have := (List.mergeSort_perm (xs.map dataL) fun x y => decide (x ≤ y)).map undata
  rw [List.map_map, show undata ∘ dataL = id from funext undata_data, List.map_id] at this
  exact this
theorem srtS_length (xs : List ByteArray) : (srtS xs).length = xs.length := (srtS_perm xs).length_eq
theorem sortS_spec {L : List HP} {A : Option Addr} {c : Nat} {xs : List ByteArray} (hb : xs.length < 4611686018427387904) : Fn Try.prog 70 #[.slice A xs.length c] (osl strR 9 A c xs :: L) (fun v L' => v = .tuple #[] ∧ L' = osl strR 9 A c (srtS xs) :: L) := fun o w hs => by
  obtain ⟨M, k, hd, hM, hk, h1, h2, hd', l1, l2, hp, hsep⟩ := hs.ex
  rcases hp.2 with ⟨rfl, rfl⟩ | ⟨g, cur, rfl, hg, hsz, hl, hc, hx⟩
  · refine (Any.slices_Sort_string_none Try.lays190 A 0 w).mono ?_
    rintro e w' ⟨rfl, rfl⟩
    exact ⟨_, _, rfl, ⟨rfl, rfl⟩, by rw [show srtS [] = [] by simp [srtS, srtL]]; exact hs⟩
  · have hbw : w.heap[g]? = some (.cells cur 9 (0, 0)) := hk _ _ (l1 _ _ hg)
    have hlt : g < w.heap.size := (Array.getElem?_eq_some_iff.1 hbw).1
    have hcur : ∀ i x, xs[i]? = some x → cur[i]? = some (Value.string x) ∧ x.size ≤ maxEl := fun i x hi => by
      obtain ⟨l, ⟨rfl, hk2⟩, h⟩ := hx i x hi
      have := h 0 _ rfl
      exact ⟨by simpa [strR] using this, hk2⟩
    have hin : ∀ x ∈ xs, x.size ≤ maxEl := fun x hx => by
      obtain ⟨i, hi⟩ := List.getElem?_of_mem hx
      exact (hcur i x hi).2
    have henc : ∀ x : ByteArray, Go.Proofs.encStr (dataL x) = Value.string x := fun x => by cases x; simp [Go.Proofs.encStr, dataL]
    have hH : Go.Sort.Holds Go.Proofs.encStr w g 0 (xs.map dataL).toArray := fun j hj => by
      have hj' : j < xs.length := by simpa using hj
      refine ⟨?_, by simp [World.frozen?, hbw]⟩
      rw [Nat.zero_add, cell_of hbw, (hcur j _ (List.getElem?_eq_getElem hj')).1]
      simp [hj', henc]
    have hone : Sat o w (own g (.cells cur 9 (0, 0)) :: L) := ⟨⟨M, k, hd, hM, hk, h1, h2, hd', l1, l2, hg, hsep⟩, hs.os, hs.tape, hs.output, hs.size⟩
    have hkit := Any.slices_Sort_string Try.lays190 g 0 c (xs.map dataL) w hH hlt (by simpa using hb)
    rw [List.length_map] at hkit
    refine hkit.mono ?_
    rintro e w' ⟨rfl, n, os, rfl⟩
    have hput : Sat o (Go.Sort.putRow Go.Proofs.encStr (Go.Sort.ahead w n) g 0 (srtL (xs.map dataL)).toArray) (own g (.cells (Go.Sort.putCells Go.Proofs.encStr 0 (srtL (xs.map dataL)).toArray cur) 9 (0, 0)) :: L) := by
      refine (hone.ahead n).set ?_ ?_ rfl rfl rfl ?_
      · show ((Go.Sort.ahead w n).heap.modify g (Go.Sort.onCells _))[g]? = _
        rw [Array.getElem?_modify, if_pos rfl, show (Go.Sort.ahead w n).heap[g]? = w.heap[g]? from rfl, hbw]; rfl
      · intro i hi
        show ((Go.Sort.ahead w n).heap.modify g (Go.Sort.onCells _))[i]? = _
        rw [Array.getElem?_modify, if_neg (Ne.symm hi)]
      · show _ ≤ ((Go.Sort.ahead w n).heap.modify g (Go.Sort.onCells _)).size
        simp
    refine ⟨_, _, rfl, ⟨rfl, rfl⟩, (hput.grow os).gives fun N m ⟨a1, a2, ad, m1, m2, ha, hs'⟩ => ⟨a1, a2, ad, m1, m2, ⟨by rw [srtS_length]; exact hp.1, .inr ⟨g, _, rfl, ha, ?_, by rw [srtS_length]; exact hl, hc, fun i x hi => ?_⟩⟩, hs'⟩⟩
    · simp [Go.Sort.putCells, hsz]
    · have hm := List.mem_of_getElem? hi
      have hil : i < (srtS xs).length := (List.getElem?_eq_some_iff.1 hi).1
      refine ⟨[.string x], ⟨rfl, hin x ((srtS_perm xs).mem_iff.1 hm)⟩, fun j v hj => ?_⟩
      have hj0 : j = 0 := by
        have := (List.getElem?_eq_some_iff.1 hj).1
        simp at this; exact this
      subst hj0
      simp at hj
      subst hj
      have hic : i < cur.size := by rw [hsz]; rw [srtS_length] at hil; simp [strR]; omega
      have hil2 : i < (srtL (xs.map dataL)).length := by unfold srtS at hil; rwa [List.length_map] at hil
      have hx2 : undata (srtL (xs.map dataL))[i] = x := by
        have := hi; unfold srtS at this; rw [List.getElem?_map, List.getElem?_eq_getElem hil2] at this; exact Option.some.inj this
      have he2 : Go.Proofs.encStr (srtL (xs.map dataL))[i] = Value.string x := by rw [← hx2]; simp [Go.Proofs.encStr, undata]
      simp [Go.Sort.putCells, strR, Array.getElem?_mapIdx, hil2, he2, Array.getElem?_eq_getElem hic]
end Go.SL
set_option linter.unusedVariables false
set_option linter.unusedSimpArgs false
namespace Go.SL
open Go Go.Proofs
structure GaStS where
  xs : List ByteArray
  A : Option Addr
  c : Nat
def gaStepS : LS GaStS → ByteArray → LS GaStS → Prop := fun s x s' => s'.2 = none ∧ s'.1.xs = s.1.xs ++ [x]
theorem gaS_runs {s s' : LS GaStS} {xs : List ByteArray} (h0 : s.2 = none) (h : Runs gaStepS (fun s => !s.2.isNone) s xs s') : s'.2 = none ∧ s'.1.xs = s.1.xs ++ xs := by
  induction h with
  | nil s => exact ⟨h0, by simp⟩
  | halt a b => rw [a.1] at b; simp at b
  | go a b c ih => have := ih a.1; rw [a.2] at this; simpa using this
theorem appendSeqS_spec {c : Value} {N : Nat} {Lf Lr : List HP} {seqs : Bool → List ByteArray → Prop} (hi : IterC Try.prog c (fun k : ByteArray => [.string k]) (fun k => k.size ≤ maxEl) N Lf seqs) (hN : N ≤ 2199023255552) : Fn Try.prog 83 #[.slice none 0 0, c] (Lf ++ Lr) (fun v L' => ∃ A' c' xs, v = .slice A' xs.length c' ∧ seqs false xs ∧ L' = osl strR 9 A' c' xs :: (Lf ++ Lr)) := by
  refine Fn_enterM Try.func83 rfl rfl rfl rfl ?_
  refine T_region ?_
  refine TL_box rfl rfl rfl ?_
  intro b2
  refine TL_y rfl rfl (Y_assign rfl) ?_
  refine TL_nil ?_
  refine T_seq ?_
  refine T_region ?_
  refine TL_y rfl rfl (Y_move rfl) ?_
  refine TL_nil ?_
  refine T_block ?_
  refine T_range_iter (fun g : GaStS => [cells b2 [.slice g.A g.xs.length g.c] 69, osl strR 9 g.A g.c g.xs]) (gaStepS) (fun g : GaStS => g.xs.length) (⟨[], none, 0⟩) rfl (hi) ((osl_nil strR 9 none _).trans (Gives.swap _ _ _)) (by decide) (fun _ => rfl) rfl (fun s x s' h => by rw [h.2]; simp) (fun l900 b900 g x Lx hx hlt => ?_) (fun m900 xs g hseq hrun => ?_)
  · obtain ⟨xs, A, c⟩ := g
    dsimp only at hlt
    try simp only [List.cons_append, List.nil_append]
    refine T_region_last ?_
    refine TL_y rfl rfl (Y_assign rfl) ?_
    refine TL_nil ?_
    refine ⟨rfl, _, FindHP.g, ?_⟩
    refine T_block ?_
    refine T_region_last ?_
    refine TL_y rfl rfl (Y_load rfl rfl) ?_
    refine TL_y rfl rfl (Y_move rfl) ?_
    refine TL_build_slice rfl rfl rfl rfl rfl rfl ?_
    intro b10
    refine TL_osl (k := 1) strR [x] (Knows.const fun M => ⟨[.string x], [], ⟨rfl, hx⟩, rfl, rfl⟩) rfl (by decide) ?_
    refine TL_freeze_osl ?_
    refine TL_name 10 (v' := .slice (some ⟨b10, 0, none⟩) [x].length 1) rfl rfl ?_
    refine TL_append rfl rfl rfl rfl rfl slk (by simp only [List.length_cons, List.length_nil]; omega) ?_
    intro A11 c11
    refine TL_store rfl rfl rfl rfl rfl rfl ?_
    refine TL_nil ?_
    refine inB_normal ?_
    exact ⟨⟨xs ++ [x], A11, c11⟩, none, rfl, ⟨rfl, rfl⟩, GivesTo.g⟩
  · obtain ⟨⟨ys, A, c⟩, j⟩ := g
    obtain ⟨rfl, h2⟩ := gaS_runs rfl hrun
    dsimp only at h2
    rw [List.nil_append] at h2
    subst h2
    try simp only [List.cons_append, List.nil_append]
    refine behind_none ?_
    refine inB_normal ?_
    refine thenS_normal ?_
    refine T_region ?_
    refine TL_y rfl rfl (Y_load rfl rfl) ?_
    refine TL_y rfl rfl (Y_assign rfl) ?_
    refine TL_nil ?_
    refine T_ret ?_
    refine retM1 ?_
    exact RetG_1 (.inl rfl) rfl (ResV.tmp rfl) GivesTo.g (⟨A, c, ys, rfl, hseq, rfl⟩)
theorem collectS_spec {c : Value} {N : Nat} {Lf Lr : List HP} {seqs : Bool → List ByteArray → Prop} (hi : IterC Try.prog c (fun k : ByteArray => [.string k]) (fun k => k.size ≤ maxEl) N Lf seqs) (hN : N ≤ 2199023255552) : Fn Try.prog 69 #[c] (Lf ++ Lr) (fun v L' => ∃ A' c' xs, v = .slice A' xs.length c' ∧ seqs false xs ∧ L' = osl strR 9 A' c' xs :: (Lf ++ Lr)) := by
  refine Fn_enter Try.func69 rfl rfl rfl rfl ?_
  refine T_region ?_
  refine TL_y rfl rfl (Y_assign rfl) ?_
  refine TL_nil ?_
  refine T_region ?_
  refine TL_y rfl rfl (Y_move rfl) ?_
  refine TL_call rfl rfl (appendSeqS_spec hi hN) ?_
  rintro _ _ ⟨A4, c4, xs, rfl, hs, rfl⟩
  refine TL_y rfl rfl (Y_assign rfl) ?_
  refine TL_nil ?_
  refine T_ret ?_
  exact RetG_1 (.inl rfl) rfl (ResV.tmp rfl) GivesTo.g (⟨A4, c4, xs, rfl, hs, rfl⟩)
theorem sortedS_spec {c : Value} {N : Nat} {Lf Lr : List HP} {seqs : Bool → List ByteArray → Prop} (hi : IterC Try.prog c (fun k : ByteArray => [.string k]) (fun k => k.size ≤ maxEl) N Lf seqs) (hN : N ≤ 2199023255552) : Fn Try.prog 39 #[c] (Lf ++ Lr) (fun v L' => ∃ A' c' xs, v = .slice A' (srtS xs).length c' ∧ seqs false xs ∧ L' = osl strR 9 A' c' (srtS xs) :: (Lf ++ Lr)) := by
  refine Fn_enter Try.func39 rfl rfl rfl rfl ?_
  refine T_region ?_
  refine TL_y rfl rfl (Y_assign rfl) ?_
  refine TL_nil ?_
  refine T_region ?_
  refine TL_y rfl rfl (Y_move rfl) ?_
  refine TL_call rfl rfl (collectS_spec hi hN) ?_
  rintro _ _ ⟨A5, c5, xs, rfl, hs, rfl⟩
  refine TL_fact osl_len (fun _ h => h) fun hl5 => ?_
  simp only [maxEl] at hl5
  refine TL_y rfl rfl (Y_assign rfl) ?_
  refine TL_nil ?_
  refine T_region ?_
  refine TL_y rfl rfl (Y_move rfl) ?_
  refine TL_call rfl rfl (sortS_spec (by omega)) ?_
  rintro _ _ ⟨rfl, rfl⟩
  refine TL_nil ?_
  refine T_region ?_
  refine TL_y rfl rfl (Y_move rfl) ?_
  refine TL_y rfl rfl (Y_assign rfl) ?_
  refine TL_nil ?_
  refine T_ret ?_
  rw [← srtS_length xs]
  exact RetG_1 (.inl rfl) rfl (ResV.tmp rfl) GivesTo.g (⟨A5, c5, xs, rfl, hs, rfl⟩)
end Go.SL
set_option linter.unusedVariables false
set_option linter.unusedSimpArgs false
namespace Go.SL
open Go Go.Proofs
theorem keysQ1_spec {β : Type} {R : Rep β} {ag : Bool} {b bx : Nat} {m : List (ByteArray × β)} {τ : Type} {l : Nat} {C : τ → HP} {step : τ → ByteArray → τ → Prop} {stop : τ → Bool} {cnt : τ → Nat} {s0 : τ} {Lx : List HP} (h0 : stop s0 = false) (hc0 : cnt s0 = 0) (hcnt : ∀ s x s', step s x s' → cnt s' = cnt s + 1) (hy : YieldsC Try.prog l C (fun k : ByteArray => [.string k]) (fun k => k.size ≤ maxEl) step stop cnt m.length) :
    Fn Try.prog 71 #[.func (.yield l) #[] #[], .pointer (some ⟨bx, 0, none⟩)] (con l (C s0) :: cells bx [.map (some b)] 68 :: omap strK R ag b m :: Lx)
      (fun v L' => ∃ xs s', (stop s' = false → xs.Perm (m.map (·.1))) ∧ Runs step stop s0 xs s' ∧ L' = con l (C s') :: cells bx [.map (some b)] 68 :: omap strK R ag b m :: Lx) := by
  refine Fn_enter Try.func71 rfl rfl rfl rfl ?_
  refine T_region ?_
  refine TL_y rfl rfl (Y_load rfl rfl) ?_
  refine TL_range rfl rfl ?_
  intro it
  refine TL_nil ?_
  refine T_block ?_
  refine T_loopK (σ := List (ByteArray × β) × τ) [0, 5] (fun g => Runs step stop s0 (g.1.map (·.1)) g.2 ∧ stop g.2 = false ∧ cnt g.2 = g.1.length) (fun g kv => kv) (fun g => con l (C g.2) :: mrange strK R ag b it m g.1 :: cells bx [.map (some b)] 68 :: Lx) (fun g => m.length - g.1.length) (([], s0)) rfl (⟨.nil _, h0, hc0⟩) (GivesTo.g) (sub_cons rfl (sub_cons rfl (sub_nil))) ?_
  rintro ⟨done, s⟩ ⟨hr, hs, hc⟩
  dsimp only at hr hs hc ⊢
  refine T_region ?_
  refine TL_next rfl rfl (fun hp => ?_) (fun q1 cs1 hq hd1 hlt => ?_)
  · refine TL_y rfl rfl (Y_extract rfl rfl) ?_
    refine TL_name 7 (v' := .bool false) rfl (rfl) ?_
    refine TL_nil ?_
    refine T_seq ?_
    refine T_cond_false rfl ?_
    refine T_exit ?_
    refine thenS_exit ?_
    refine thenS_exit ?_
    refine inB_hit ?_
    refine RetQ.gives (endr it) ?_
    exact RetG_0 (.inr rfl) rfl GivesTo.g (⟨_, s, fun _ => hp.map _, hr, rfl⟩)
  · refine TL_y rfl rfl (Y_extract rfl rfl) ?_
    refine TL_name 7 (v' := .bool true) rfl (rfl) ?_
    refine TL_nil ?_
    refine T_seq ?_
    refine T_cond_true rfl ?_
    refine T_skip ?_
    refine thenS_normal ?_
    refine T_block ?_
    refine T_region ?_
    refine TL_entry rfl rfl ?_
    intro cs8 ok8
    refine TL_y rfl rfl (Y_extract rfl rfl) ?_
    refine TL_y rfl rfl (Y_assign rfl) ?_
    refine TL_nil ?_
    refine T_region ?_
    refine TL_y rfl rfl (Y_move rfl) ?_
    refine TL_y rfl rfl (Y_move rfl) ?_
    refine TL_pullk l ?_
    refine TL_yield rfl rfl rfl (hy s q1.1 _ hs ok8 (by omega)) ?_
    rintro _ _ ⟨s2, hst, rfl, rfl⟩
    refine TL_y rfl rfl (Y_not rfl) ?_
    refine TL_nil ?_
    refine T_cond rfl (fun h13 => ?_) (fun h13 => ?_)
    · have hs2 : stop s2 = true := by simpa using h13
      refine T_ret ?_
      refine inB_ret ?_
      refine thenS_ret ?_
      refine inB_ret ?_
      refine RetQ.gives (endr it) ?_
      exact RetG_0 (.inl rfl) rfl GivesTo.g (⟨_, s2, fun h => (by rw [hs2] at h; cases h), hr.snoc h0 hs hst, rfl⟩)
    · have hs2 : stop s2 = false := by simpa using h13
      refine T_skip ?_
      refine inB_normal ?_
      refine thenS_normal ?_
      exact ⟨(done ++ [q1], s2), ⟨by rw [List.map_append]; exact hr.snoc h0 hs hst, hs2, by rw [hcnt _ _ _ hst, hc]; simp⟩, by simp only [List.length_append, List.length_cons, List.length_nil]; omega, holds_to (sub_cons rfl (sub_cons rfl (sub_nil))) GivesTo.g⟩
theorem keysQ_iter {β : Type} {R : Rep β} {ag : Bool} {b bx : Nat} {m : List (ByteArray × β)} : IterC Try.prog (.func (.func 71) #[] #[.pointer (some ⟨bx, 0, none⟩)]) (fun k : ByteArray => [.string k]) (fun k => k.size ≤ maxEl) m.length [cells bx [.map (some b)] 68, omap strK R ag b m] (fun s ks => s = false → ks.Perm (m.map (·.1))) :=
  ⟨_, [], [.pointer (some ⟨bx, 0, none⟩)], rfl, inferInstance, fun τ l C step stop cnt s0 Lx h0 hc hcnt hy => (keysQ1_spec h0 hc hcnt hy).cases_ fun v L' ⟨xs, s', a1, a2, a3⟩ => ⟨xs, s', a1, a2, a3⟩⟩
theorem keysQ_spec {L : List HP} {b : Nat} : Fn Try.prog 40 #[.map (some b)] L (fun v L' => ∃ bx, v = .func (.func 71) #[] #[.pointer (some ⟨bx, 0, none⟩)] ∧ L' = cells bx [.map (some b)] 68 :: L) := by
  refine Fn_enter Try.func40 rfl rfl rfl rfl ?_
  refine T_region ?_
  refine TL_box rfl rfl rfl ?_
  intro b1
  refine TL_y rfl rfl (Y_assign rfl) ?_
  refine TL_nil ?_
  refine T_region ?_
  refine TL_y rfl rfl (Y_make_func rfl rfl) ?_
  refine TL_y rfl rfl (Y_assign rfl) ?_
  refine TL_nil ?_
  refine T_ret ?_
  exact RetG_1 (.inl rfl) rfl (ResV.tmp rfl) GivesTo.g (⟨b1, rfl, rfl⟩)
end Go.SL
set_option linter.unusedVariables false
set_option linter.unusedSimpArgs false
namespace Go.SL
open Go Go.Proofs
open Go.WideMaps (KeyLaw)
def dotK : KeyT DotD := ⟨fun k => .agg #[.int .i64 k.1, .int .i64 k.2], fun k => intIn .i64 k.1 ∧ intIn .i64 k.2, fun a b h => by
  have h1 := (Value.agg.injEq _ _).mp h
  simp at h1
  exact Prod.ext h1.1 h1.2⟩
theorem dot_row : (26 : TypeId) < Try.prog.types.size := of_decide_eq_true (by kernel_rfl)
theorem dot_wide : (match Try.prog.underlying 26 with | some (.array _ _) | some (.struct _) => true | _ => false) = true := by rw [Try.underlying26]
set_option maxRecDepth 100000 in
theorem dot_law : KeyLaw Try.prog 26 := deep_law_laid ct_laid (m := 2) (by omega) dot_row (by kernel_rfl) dot_wide
theorem dot_cells : Try.prog.cellsOf 26 = 2 := by kernel_rfl
theorem int_cells : Try.prog.cellsOf 3 = 1 := by kernel_rfl
theorem dot_key : Try.prog.keyType 26 = true := by kernel_rfl
set_option maxRecDepth 100000 in
theorem dot_of (k : DotD) (h : dotK.ok k) : ∃ l, keyOf Try.prog 26 (dotK.enc k) = some l := by
  obtain ⟨q, hq⟩ := ct_types
  have h1 := wf_of_in h.1
  have h2 := wf_of_in h.2
  have hf : (dotK.enc k).formed Try.prog 26 = true := by simp [dotK, Value.formed, Try.underlying26, dot_cells]
  refine ⟨.string (keyBytes [.int .i64 k.1, .int .i64 k.2]), ?_⟩
  unfold keyOf
  rw [Try.underlying26]
  simp only [dot_key, hf, Bool.and_self, if_true]
  rw [hq]
  simp [dotK, Program.keyLits, Try.underlying26, Try.underlying3, dot_cells, int_cells, Value.cells, h1, h2]
instance : KeyOk Try.prog 26 dotK := ⟨Maps.Keyed.of_law dot_law, dot_of⟩
abbrev onF (bs bm : Nat) (seen : List DotD) (m : List (DotD × Bool)) : List HP := [cells bs [.map (some bm)] 96, omap dotK boolR false bm m, pure (∀ d, (getM m d).getD false = decide (d ∈ seen))]
def wOnce (bs bm : Nat) (seen : List DotD) : HP := exH (onF bs bm seen)
section
variable {r : Option Nat} {n : Nat} {P : Program} {ops : Array Oper} {rest : List Oper} {K : St → Prop} {Q : Exit → St → Prop} {D : List Deferred} {E : Env} {L : List HP} {bs bm : Nat} {seen : List DotD}
theorem T_wOnce {c : Code} (h : ∀ m : List (DotD × Bool), (∀ d, (getM m d).getD false = decide (d ∈ seen)) → T r n P c ⟨D, E, cells bs [.map (some bm)] 96 :: omap dotK boolR false bm m :: L⟩ Q) : T r n P c ⟨D, E, wOnce bs bm seen :: L⟩ Q := T_exH (f := onF bs bm seen) fun m => T_pull 2 rfl (T_fact (Knows.head' (φ := fun _ => ∀ d, (getM m d).getD false = decide (d ∈ seen)) fun _ _ h => h) (fun _ h => h) fun hm => T_gives (Gives.drop _ _) (h m hm))
theorem wOnce_close {m : List (DotD × Bool)} (h : ∀ d, (getM m d).getD false = decide (d ∈ seen)) : Gives (cells bs [.map (some bm)] 96 :: omap dotK boolR false bm m :: L) (wOnce bs bm seen :: L) :=
  Gives.trans (Gives.cons _ (Gives.cons _ (Gives.pure_intro h))) (exH_close (f := onF bs bm seen) m)
end
theorem once1_spec {L : List HP} {bs bm : Nat} {seen : List DotD} (e : EventD) (q : Option Addr × Nat) (ho : eventOk e) : Fn Try.prog 68 #[evV e q, .pointer (some ⟨bs, 0, none⟩)] (wOnce bs bm seen :: L) (fun v L' => v = .bool (!decide (e.dot ∈ seen)) ∧ L' = wOnce bs bm (e.dot :: seen) :: L) := by
  refine Fn_enter Try.func68 rfl rfl rfl rfl ?_
  refine T_wOnce fun m hm => ?_
  refine T_region ?_
  refine TL_box rfl rfl rfl ?_
  intro b2
  refine TL_y rfl rfl (Y_assign rfl) ?_
  refine TL_nil ?_
  refine T_region ?_
  refine TL_y rfl rfl (Y_load rfl rfl) ?_
  refine TL_y rfl rfl (Y_field_addr rfl) ?_
  refine TL_y rfl rfl (Y_load_agg rfl rfl) ?_
  refine TL_y rfl rfl (Y_lookup (K := dotK) (R := boolR) (k := e.dot) rfl rfl ⟨ho.1, ho.2.1⟩) ?_
  refine TL_name 8 (v' := .bool (decide (e.dot ∈ seen))) rfl (by rw [← hm e.dot]; cases getM m e.dot <;> rfl) ?_
  refine TL_y rfl rfl (Y_assign rfl) ?_
  refine TL_nil ?_
  refine T_region ?_
  refine TL_y rfl rfl (Y_load rfl rfl) ?_
  refine TL_y rfl rfl (Y_field_addr rfl) ?_
  refine TL_y rfl rfl (Y_load_agg rfl rfl) ?_
  refine TL_update (K := dotK) (R := boolR) (k := e.dot) (u := true) (cs := [.bool true]) ((e.dot, true) :: delM m e.dot) rfl rfl rfl ⟨ho.1, ho.2.1⟩ (Knows.const fun M => rfl) (List.Perm.refl _) ?_
  refine TL_nil ?_
  refine T_region ?_
  refine TL_y rfl rfl (Y_move rfl) ?_
  refine TL_y rfl rfl (Y_not_d rfl) ?_
  refine TL_y rfl rfl (Y_assign rfl) ?_
  refine TL_nil ?_
  refine T_ret ?_
  have hm2 : ∀ d, (getM ((e.dot, true) :: delM m e.dot) d).getD false = decide (d ∈ e.dot :: seen) := (fun d => by rw [getM_cons, getM_del]; by_cases hd : e.dot = d; (subst hd; simp); (rw [if_neg hd, if_neg (fun h => hd h.symm), hm d]; simp [show d ≠ e.dot from fun h => hd h.symm]))
  refine RetQ.gives (show Gives _ (cells bs [.map (some bm)] 96 :: omap dotK boolR false bm ((e.dot, true) :: delM m e.dot) :: L) from GivesTo.g) ?_
  refine RetQ.gives (wOnce_close hm2) ?_
  exact RetG_1 (.inl rfl) rfl (ResV.tmp rfl) GivesTo.g (⟨congrArg Value.bool (by simp), rfl⟩)
theorem once_spec {L : List HP} {A : Option Addr} {c : Nat} {l : List EventD} (hk : SlK L eventR A c l) (hl : l.length ≤ 1466015503701) : Fn Try.prog 38 #[.slice A l.length c] L (fun v L' => ∃ A' c', v = .slice A' (onceC l).length c' ∧ L' = osl eventR 29 A' c' (onceC l) :: L) := by
  refine Fn_enter Try.func38 rfl rfl rfl rfl ?_
  refine T_gives hk.lay ?_
  refine T_region ?_
  refine TL_y rfl rfl (Y_assign rfl) ?_
  refine TL_nil ?_
  refine T_region ?_
  refine TL_makeMap dotK boolR false rfl ?_
  intro bm
  refine TL_alloc rfl rfl ?_
  intro b3
  refine TL_store rfl rfl rfl rfl rfl rfl ?_
  refine TL_nil ?_
  refine T_region ?_
  refine TL_y rfl rfl (Y_move rfl) ?_
  refine TL_y rfl rfl (Y_make_func rfl rfl) ?_
  refine TL_gives (show Gives _ (wOnce b3 bm [] :: sl eventR A c l :: L) from wOnce_close (m := []) (fun d => rfl)) ?_
  refine TL_call rfl rfl (where_spec (σ := List DotD) (fun seen ↦ wOnce b3 bm seen) (fun seen e ↦ !decide (e.dot ∈ seen)) (fun seen e ↦ e.dot :: seen) 68 [.pointer (some ⟨b3, 0, none⟩)] [] (fun s e q L1 _ ho hk1 ↦ once1_spec e q ho) slk hl) ?_
  rintro _ _ ⟨A7, c7, rfl, rfl⟩
  rw [show (whr (fun (seen : List DotD) e => !decide (e.dot ∈ seen)) (fun seen e => e.dot :: seen) [] l).1 = onceC l from whr_once l []]
  refine TL_y rfl rfl (Y_assign rfl) ?_
  refine TL_nil ?_
  refine T_ret ?_
  exact RetG_1 (.inl rfl) rfl (ResV.tmp rfl) GivesTo.g (⟨A7, c7, rfl, rfl⟩)
end Go.SL
set_option linter.unusedVariables false
set_option linter.unusedSimpArgs false
namespace Go.SL
open Go Go.Proofs
abbrev lineC (t : LineD) : List Value := [.string t.1, .int .i64 t.2]
def lineOk (t : LineD) : Prop := t.1.size ≤ maxEl ∧ intIn .i64 t.2
def lineR : Rep LineD := ⟨2, fun _ a cs => cs = lineC a ∧ lineOk a, fun _ h => h, fun h => by rw [h.1]; rfl, fun h v hv => by rw [h.1] at hv; simp at hv; rcases hv with rfl | rfl <;> rfl⟩
instance : RepF lineR lineC := ⟨fun _ _ _ h => h.1⟩
theorem srtS_inc {xs : List ByteArray} (h : xs.Nodup) : (srtS xs).Pairwise strLt := by
  have h2 : (srtL (xs.map dataL)).Pairwise (fun x y => x ≤ y) := by
    have := List.pairwise_mergeSort (le := fun x y : List UInt8 => decide (x ≤ y)) (fun a b c h1 h2 => by simp at h1 h2 ⊢; exact List.le_trans h1 h2) (fun a b => by simp; exact List.le_total a b) (xs.map dataL)
    exact this.imp fun h => by simpa using h
  have h3 : (srtS xs).Pairwise fun x y => dataL x ≤ dataL y := by
    unfold srtS
    refine List.pairwise_map.2 (h2.imp fun h => ?_)
    exact h
  have h4 : (srtS xs).Nodup := (srtS_perm xs).nodup_iff.2 h
  refine (h3.and h4).imp fun {a b} ⟨h5, h6⟩ => ?_
  rcases List.le_iff_lt_or_eq.1 h5 with h7 | h7
  · exact h7
  · exact absurd (by rw [← undata_data a, ← undata_data b, h7]) h6
/-! ### Sums by their articles -/
def sumM (m : List (ByteArray × Int)) : Int := (m.map fun p => p.2).sum
structure SumI (xs : List EventD) (cart : ByteArray) (m : List (ByteArray × Int)) : Prop where
  at_ : ∀ k, (getM m k).getD 0 = sumC (xs.filter (ofC cart k))
  tot : sumM m = sumC (xs.filter fun e => decide (e.cart = cart))
theorem sumM_perm {a b : List (ByteArray × Int)} (h : a.Perm b) : sumM a = sumM b := by
  unfold sumM
  induction h with
  | nil => rfl
  | cons x _ ih => simp [ih]
  | swap x y l => simp; omega
  | trans _ _ h1 h2 => exact h1.trans h2
theorem sumM_del {m : List (ByteArray × Int)} (hn : ND m) (k : ByteArray) : sumM m = (getM m k).getD 0 + sumM (delM m k) := by
  cases hg : getM m k with
  | none => rw [del_none hg]; simp
  | some u =>
    obtain ⟨j, hj⟩ := List.getElem?_of_mem (getM_mem hg)
    have h1 : m.Perm ((k, u) :: m.eraseIdx j) := by
      have := set_perm (p := (k, u)) (List.getElem?_eq_some_iff.1 hj).1
      rwa [set_same hj] at this
    rw [sumM_perm h1, ← delM_erase hn hj]
    simp [sumM]
theorem SumI.skip {xs : List EventD} {cart : ByteArray} {m : List (ByteArray × Int)} {i : Nat} {e : EventD} (h : SumI (xs.take i) cart m) (he : xs[i]? = some e) (hc : ¬ e.cart = cart) : SumI (xs.take (i + 1)) cart m := by
  refine ⟨fun k => ?_, ?_⟩
  · rw [h.at_ k, takeAt he, List.filter_append]
    have : ofC cart k e = false := by simp [ofC, hc]
    simp [this]
  · rw [h.tot, takeAt he, List.filter_append]
    simp [hc]
theorem SumI.put {xs : List EventD} {cart : ByteArray} {m : List (ByteArray × Int)} {i : Nat} {e : EventD} (h : SumI (xs.take i) cart m) (he : xs[i]? = some e) (hc : e.cart = cart) (hn : ND m) {x : Int} (hx : (getM m e.sku).getD 0 = x) : SumI (xs.take (i + 1)) cart ((e.sku, x + e.qty) :: delM m e.sku) := by
  have hx2 : x + sumM (delM m e.sku) = sumM m := by rw [sumM_del hn e.sku, hx]
  have hx3 := h.at_ e.sku
  rw [hx] at hx3
  refine ⟨fun k => ?_, ?_⟩
  · rw [getM_cons, getM_del, takeAt he, List.filter_append, sumC_app]
    by_cases hk : e.sku = k
    · subst hk
      have : ofC cart e.sku e = true := by simp [ofC, hc]
      rw [if_pos rfl, ← hx3]
      simp [this, sumC]
    · have : ofC cart k e = false := by simp [ofC, hk]
      rw [if_neg hk, if_neg (fun h => hk h.symm), h.at_ k]
      simp [this, sumC]
  · rw [takeAt he, List.filter_append, sumC_app, ← h.tot, ← hx2]
    simp [hc, sumM, sumC]
    omega
/-! ### Lines of sums -/
def lineO (m : List (ByteArray × Int)) (k : ByteArray) : Option LineD := if 0 < (getM m k).getD 0 then some (k, (getM m k).getD 0) else none
def linesM (m : List (ByteArray × Int)) (ks : List ByteArray) : List LineD := ks.filterMap (lineO m)
theorem linesM_snoc {m : List (ByteArray × Int)} {ks : List ByteArray} {i : Nat} {k : ByteArray} (h : ks[i]? = some k) : linesM m (ks.take (i + 1)) = linesM m (ks.take i) ++ if 0 < (getM m k).getD 0 then [(k, (getM m k).getD 0)] else [] := by
  unfold linesM
  rw [takeAt h, List.filterMap_append]
  by_cases hq : 0 < (getM m k).getD 0 <;> simp [lineO, hq]
theorem linesM_len (m : List (ByteArray × Int)) (ks : List ByteArray) : (linesM m ks).length ≤ ks.length := List.length_filterMap_le _ _
theorem linesM_sum {m : List (ByteArray × Int)} (hn : ND m) (hpos : ∀ k, 0 ≤ (getM m k).getD 0) : ((linesM m (m.map fun p => p.1)).map fun p => p.2).sum = sumM m := by
  have key : ∀ l : List (ByteArray × Int), (∀ p ∈ l, getM m p.1 = some p.2) → ((linesM m (l.map fun p => p.1)).map fun p => p.2).sum = sumM l := by
    intro l
    induction l with
    | nil => intro _; rfl
    | cons p r ih =>
      intro h
      have h1 := h p List.mem_cons_self
      have h2 := ih fun q hq => h q (List.mem_cons_of_mem _ hq)
      have h3 := hpos p.1
      unfold linesM at h2 ⊢
      rw [List.map_cons, List.filterMap_cons]
      unfold lineO
      rw [h1] at h3 ⊢
      simp only [Option.getD_some] at h3 ⊢
      unfold lineO at h2
      by_cases hq : 0 < p.2
      · rw [if_pos hq]; simp only [List.map_cons, List.sum_cons, sumM]; rw [h2]; rfl
      · rw [if_neg hq]; rw [h2]; simp only [sumM, List.map_cons, List.sum_cons]; omega
  exact key m fun p hp => getM_of_mem hn hp
theorem sumL_perm {a b : List LineD} (h : a.Perm b) : (a.map fun p => p.2).sum = (b.map fun p => p.2).sum := sumM_perm h
theorem isLines_of {l : List EventD} {cart : ByteArray} {m : List (ByteArray × Int)} {ks : List ByteArray} (hq : ∀ e ∈ l, 0 ≤ e.qty ∧ e.qty ≤ 1000) (h : SumI (countC l) cart m) (hn : ND m) (hk : ks.Perm (m.map fun p => p.1)) : IsLines l cart (linesM m (srtS ks)) := by
  have hnk : (m.map fun p => p.1).Nodup := List.pairwise_map.2 hn
  have hnd : ks.Nodup := hk.nodup_iff.2 hnk
  have hat : ∀ k, (getM m k).getD 0 = lineF l cart k := fun k => h.at_ k
  have hpos : ∀ k, 0 ≤ (getM m k).getD 0 := fun k => by rw [hat]; exact (lineF_bound hq cart k).1
  refine ⟨?_, fun k q => ?_, ?_⟩
  · unfold linesM
    refine List.pairwise_filterMap.2 ((srtS_inc hnd).imp fun {a b} hab x hx y hy => ?_)
    unfold lineO at hx hy
    split at hx
    · split at hy
      · cases hx; cases hy; exact hab
      · cases hy
    · cases hx
  · unfold linesM
    rw [List.mem_filterMap]
    constructor
    · rintro ⟨a, _, hx⟩
      unfold lineO at hx
      split at hx
      · rename_i h0
        cases hx
        exact ⟨hat k, h0⟩
      · cases hx
    · rintro ⟨rfl, h0⟩
      refine ⟨k, ?_, by unfold lineO; rw [hat, if_pos h0]⟩
      rw [(srtS_perm ks).mem_iff, hk.mem_iff]
      cases hg : getM m k with
      | none => rw [← hat, hg] at h0; simp at h0
      | some u => exact List.mem_map.2 ⟨_, getM_mem hg, rfl⟩
  · have h1 : (linesM m (srtS ks)).Perm (linesM m (m.map fun p => p.1)) := ((srtS_perm ks).trans hk).filterMap _
    rw [sumL_perm h1, linesM_sum hn hpos, h.tot]
theorem del_leB {κ α : Type} [DecidableEq κ] (m : List (κ × α)) (k : κ) : (delM m k).length ≤ m.length := List.length_filter_le _ _
structure LnSt where
  i : Nat
  A : Option Addr
  c : Nat
structure SmSt where
  i : Nat
  m : List (ByteArray × Int)
theorem onceC_len (l : List EventD) : (onceC l).length ≤ l.length := by
  have : ∀ (l : List EventD) (seen : List DotD), (onceS seen l).length ≤ l.length := by
    intro l
    induction l with
    | nil => intro seen; simp [onceS]
    | cons x r ih =>
      intro seen
      unfold onceS
      split
      · have := ih seen; simp only [List.length_cons]; omega
      · have := ih (x.dot :: seen); simp only [List.length_cons]; omega
  exact this _ _
theorem countC_len (l : List EventD) : (countC l).length ≤ l.length := Nat.le_trans (onceC_len _) (List.length_filter_le _ _)
theorem take_sum_bound {xs : List EventD} (h : ∀ e ∈ xs, 0 ≤ e.qty ∧ e.qty ≤ 1000) (i : Nat) (p : EventD → Bool) : 0 ≤ sumC ((xs.take i).filter p) ∧ sumC ((xs.take i).filter p) ≤ 1000 * (xs.length : Int) := by
  have h1 := sumC_bound (l := (xs.take i).filter p) fun e he => h e (List.mem_of_mem_take (List.mem_filter.1 he).1)
  have h2 : ((xs.take i).filter p).length ≤ xs.length := Nat.le_trans (List.length_filter_le _ _) (by rw [List.length_take]; omega)
  omega
theorem lines_spec {L : List HP} {A : Option Addr} {c : Nat} {l : List EventD} (cart : ByteArray) (hk : SlK L eventR A c l) (hl : l.length ≤ 1466015503701) (hq : ∀ e ∈ l, 0 ≤ e.qty ∧ e.qty ≤ 1000) : Fn Try.prog 16 #[.slice A l.length c, .string cart] L (fun v L' => ∃ A' c' xs, v = .slice A' xs.length c' ∧ L' = osl lineR 65 A' c' xs :: L ∧ IsLines l cart xs ∧ xs.length ≤ l.length) := by
  have hcl := countC_len l
  have hcq : ∀ e ∈ countC l, 0 ≤ e.qty ∧ e.qty ≤ 1000 := fun e he => hq e (mem_stand.1 (onceC_sub he)).1
  refine Fn_enter Try.func16 rfl rfl rfl rfl ?_
  refine T_gives (SlK.lay hk) ?_
  refine T_region ?_
  refine TL_y rfl rfl (Y_assign rfl) ?_
  refine TL_nil ?_
  refine T_region ?_
  refine TL_makeMap strK (intR .i64) false rfl ?_
  intro bm
  refine TL_y rfl rfl (Y_assign rfl) ?_
  refine TL_nil ?_
  refine T_seq ?_
  refine T_region ?_
  refine TL_y rfl rfl (Y_move rfl) ?_
  refine TL_call rfl rfl (stand_spec (slk (A := A) (c := c)) (by omega)) ?_
  rintro _ _ ⟨A13, c13, rfl, rfl⟩
  refine TL_freeze_osl ?_
  refine TL_call rfl rfl (once_spec (slk (A := A13) (c := c13)) (Nat.le_trans (List.length_filter_le _ _) (by omega))) ?_
  rintro _ _ ⟨A14, c14, rfl, rfl⟩
  refine TL_freeze_osl ?_
  rw [show onceC (standC l) = countC l from rfl]
  refine TL_y rfl rfl (Y_len rfl) ?_
  refine TL_y rfl rfl (Y_move rfl) ?_
  refine TL_nil ?_
  refine T_block ?_
  refine T_loopK (σ := SmSt) [1, 5, 14, 15] (fun g => g.i ≤ (countC l).length ∧ SumI ((countC l).take g.i) cart g.m ∧ g.m.length ≤ g.i) (fun g kv => (16, .int .i64 (g.i : Int)) :: kv) (fun g => omap strK (intR .i64) false bm g.m :: sl eventR A14 c14 (countC l) :: L) (fun g => (countC l).length - g.i) (⟨0, []⟩) rfl (⟨Nat.zero_le _, ⟨fun k => rfl, rfl⟩, Nat.le_refl _⟩) (GivesTo.g) (sub_cons rfl (sub_cons rfl (sub_cons rfl (sub_cons rfl (sub_cons rfl (sub_nil)))))) ?_
  rintro ⟨i, m⟩ ⟨hil, hI, hmi⟩
  dsimp only at hil hI hmi ⊢
  have hmn : m.length ≤ l.length := (by omega)
  refine T_region ?_
  refine TL_y rfl rfl (Y_lt rfl rfl) ?_
  refine TL_nil ?_
  refine T_seq ?_
  refine T_if rfl (fun h17 => ?_) (fun h17 => ?_)
  · refine T_skip ?_
    refine thenS_normal ?_
    refine T_seq ?_
    refine T_block ?_
    obtain ⟨e, he⟩ : ∃ e, (countC l)[i]? = some e := ⟨_, List.getElem?_eq_getElem (by omega)⟩
    have heq := hcq e (List.mem_of_getElem? he)
    refine T_nd (b := bm) fun hnd => ?_
    have hsb := take_sum_bound hcq i (ofC cart e.sku)
    rw [← hI.at_] at hsb
    refine T_region ?_
    refine TL_index_n rfl rfl rfl (rfl) ((sln (A := A14) (c := c14))) (he) ?_
    intro bn18 on18 hA18 hk18
    have hu18 := he
    refine TL_load_nx rfl rfl hk18 hu18 (fun _ => rfl) ?_
    intro p19 ok19
    simp only [List.cons_append, List.nil_append]
    refine TL_alloc rfl rfl ?_
    intro b7
    refine TL_store rfl rfl rfl rfl rfl rfl ?_
    refine TL_nil ?_
    refine T_region ?_
    refine TL_y rfl rfl (Y_field_addr rfl) ?_
    refine TL_y rfl rfl (Y_load rfl rfl) ?_
    refine TL_y rfl rfl (Y_move rfl) ?_
    refine TL_y rfl rfl (Y_str_eq rfl rfl) ?_
    refine TL_nil ?_
    refine T_if rfl (fun h23 => ?_) (fun h23 => ?_)
    · refine T_region_last ?_
      refine TL_y rfl rfl (Y_move rfl) ?_
      refine TL_y rfl rfl (Y_field_addr rfl) ?_
      refine TL_y rfl rfl (Y_load rfl rfl) ?_
      refine TL_y rfl rfl (Y_lookup (K := strK) (R := intR .i64) (k := e.sku) rfl rfl ok19.2.2.2.2.2.1) ?_
      refine TL_name 27 (v' := .int .i64 ((getM m e.sku).getD 0)) rfl (by cases getM m e.sku <;> rfl) ?_
      refine TL_y rfl rfl (Y_field_addr rfl) ?_
      refine TL_y rfl rfl (Y_load rfl rfl) ?_
      refine TL_y rfl rfl (Y_add rfl rfl (by omega)) ?_
      refine TL_update (K := strK) (R := intR .i64) (k := e.sku) (u := (getM m e.sku).getD 0 + e.qty) (cs := [.int .i64 ((getM m e.sku).getD 0 + e.qty)]) ((e.sku, (getM m e.sku).getD 0 + e.qty) :: delM m e.sku) rfl rfl rfl ok19.2.2.2.2.2.1 (Knows.const fun M => ⟨rfl, i64In_mk (by omega)⟩) (List.Perm.refl _) ?_
      refine TL_nil ?_
      refine inB_normal ?_
      refine thenS_normal ?_
      refine T_region_last ?_
      refine TL_y rfl rfl (Y_add rfl rfl (by omega)) ?_
      refine TL_name 31 (v' := .int .i64 ((i + 1 : Nat) : Int)) rfl (rfl) ?_
      refine TL_y rfl rfl (Y_move rfl) ?_
      refine TL_nil ?_
      refine thenS_normal ?_
      exact ⟨⟨i + 1, (e.sku, (getM m e.sku).getD 0 + e.qty) :: delM m e.sku⟩, ⟨by simp only; omega, hI.put he h23 hnd rfl, by have := del_leB m e.sku; simp only [List.length_cons]; omega⟩, by simp only; omega, holds_to (sub_cons rfl (sub_cons rfl (sub_cons rfl (sub_cons rfl (sub_cons rfl (sub_nil)))))) GivesTo.g⟩
    · refine T_skip ?_
      refine inB_normal ?_
      refine thenS_normal ?_
      refine T_region_last ?_
      refine TL_y rfl rfl (Y_add rfl rfl (by omega)) ?_
      refine TL_name 31 (v' := .int .i64 ((i + 1 : Nat) : Int)) rfl (rfl) ?_
      refine TL_y rfl rfl (Y_move rfl) ?_
      refine TL_nil ?_
      refine thenS_normal ?_
      exact ⟨⟨i + 1, m⟩, ⟨by simp only; omega, hI.skip he h23, by simp only; omega⟩, by simp only; omega, holds_to (sub_cons rfl (sub_cons rfl (sub_cons rfl (sub_cons rfl (sub_cons rfl (sub_nil)))))) GivesTo.g⟩
  · refine T_exit ?_
    refine thenS_exit ?_
    refine thenS_exit ?_
    refine inB_hit ?_
    refine thenS_normal ?_
    rw [List.take_of_length_le (show (countC l).length ≤ i by omega)] at hI
    refine T_nd (b := bm) fun hnd => ?_
    refine T_region ?_
    refine TL_y rfl rfl (Y_assign rfl) ?_
    refine TL_nil ?_
    refine T_seq ?_
    refine T_region ?_
    refine TL_y rfl rfl (Y_move rfl) ?_
    refine TL_call rfl rfl (keysQ_spec) ?_
    rintro _ _ ⟨bx, rfl, rfl⟩
    refine TL_gives (show Gives _ (cells bx [.map (some bm)] 68 :: omap strK (intR .i64) false bm m :: sl eventR A14 c14 (countC l) :: L) from GivesTo.g) ?_
    refine TL_call rfl rfl (sortedS_spec (Lf := [cells bx [.map (some bm)] 68, omap strK (intR .i64) false bm m]) (Lr := sl eventR A14 c14 (countC l) :: L) (keysQ_iter (R := intR .i64) (ag := false) (b := bm) (bx := bx) (m := m)) (by omega)) ?_
    rintro _ _ ⟨A34, c34, ks, rfl, hperm, rfl⟩
    simp only [List.cons_append, List.nil_append]
    refine TL_freeze_osl ?_
    have hkp := hperm rfl
    have hkl : (srtS ks).length ≤ l.length := (by rw [srtS_length, hkp.length_eq, List.length_map]; exact hmn)
    refine TL_y rfl rfl (Y_len rfl) ?_
    refine TL_y rfl rfl (Y_move rfl) ?_
    refine TL_nil ?_
    refine T_block ?_
    refine T_loopK (σ := LnSt) [5, 34, 35] (fun g => g.i ≤ (srtS ks).length) (fun g kv => (36, .int .i64 (g.i : Int)) :: (8, .slice g.A (linesM m ((srtS ks).take g.i)).length g.c) :: kv) (fun g => osl lineR 65 g.A g.c (linesM m ((srtS ks).take g.i)) :: omap strK (intR .i64) false bm m :: sl strR A34 c34 (srtS ks) :: L) (fun g => (srtS ks).length - g.i) (⟨0, none, 0⟩) rfl (Nat.zero_le _) (Gives.trans (show Gives _ (omap strK (intR .i64) false bm m :: sl strR A34 c34 (srtS ks) :: L) from GivesTo.g) (osl_nil lineR 65 none _)) (sub_cons rfl (sub_cons rfl (sub_cons rfl (sub_cons rfl (sub_cons rfl (sub_nil)))))) ?_
    rintro ⟨j, X, cx⟩ hjl
    dsimp only at hjl ⊢
    skip
    refine T_region ?_
    refine TL_y rfl rfl (Y_lt rfl rfl) ?_
    refine TL_nil ?_
    refine T_seq ?_
    refine T_if rfl (fun h37 => ?_) (fun h37 => ?_)
    · refine T_skip ?_
      refine thenS_normal ?_
      refine T_seq ?_
      refine T_block ?_
      obtain ⟨k, hk1⟩ : ∃ k, (srtS ks)[j]? = some k := ⟨_, List.getElem?_eq_getElem (by omega)⟩
      have hsn := linesM_snoc (m := m) hk1
      have hll := linesM_len m ((srtS ks).take j)
      rw [List.length_take] at hll
      have hsb : 0 ≤ (getM m k).getD 0 ∧ (getM m k).getD 0 ≤ 1000 * (l.length : Int) := (by rw [hI.at_]; have := take_sum_bound hcq (countC l).length (ofC cart k); rw [List.take_of_length_le (Nat.le_refl _)] at this; omega)
      refine T_elem_fact (sln (A := A34) (c := c34)) hk1 (p := k.size ≤ maxEl) (fun M l h => h.2) fun hks => ?_
      refine T_region ?_
      refine TL_index_n rfl rfl rfl (rfl) ((sln (A := A34) (c := c34))) (hk1) ?_
      intro bn38 on38 hA38 hk38
      have hu38 := hk1
      refine TL_y rfl rfl (Y_load_n rfl hk38 hu38 rfl) ?_
      refine TL_y rfl rfl (Y_assign rfl) ?_
      refine TL_nil ?_
      refine T_region ?_
      refine TL_y rfl rfl (Y_move rfl) ?_
      refine TL_y rfl rfl (Y_move rfl) ?_
      refine TL_y rfl rfl (Y_lookup (K := strK) (R := intR .i64) (k := k) rfl rfl hks) ?_
      refine TL_name 42 (v' := .int .i64 ((getM m k).getD 0)) rfl (by cases getM m k <;> rfl) ?_
      refine TL_y rfl rfl (Y_gt rfl rfl) ?_
      refine TL_nil ?_
      refine T_if rfl (fun h43 => ?_) (fun h43 => ?_)
      · rw [if_pos h43] at hsn
        refine T_region_last ?_
        refine TL_y rfl rfl (Y_move rfl) ?_
        refine TL_y rfl rfl (Y_move rfl) ?_
        refine TL_y rfl rfl (Y_move rfl) ?_
        refine TL_y rfl rfl (Y_move rfl) ?_
        refine TL_y rfl rfl (Y_lookup (K := strK) (R := intR .i64) (k := k) rfl rfl hks) ?_
        refine TL_name 48 (v' := .int .i64 ((getM m k).getD 0)) rfl (by cases getM m k <;> rfl) ?_
        refine TL_y rfl rfl (Y_build rfl rfl) ?_
        refine TL_build_slice rfl rfl rfl rfl rfl rfl ?_
        intro b50
        refine TL_osl (k := 1) lineR [(k, (getM m k).getD 0)] (Knows.const fun M => ⟨[.string k, .int .i64 ((getM m k).getD 0)], [], ⟨rfl, hks, i64In_mk (by omega)⟩, rfl, rfl⟩) rfl (by decide) ?_
        refine TL_freeze_osl ?_
        refine TL_name 50 (v' := .slice (some ⟨b50, 0, none⟩) [((k, (getM m k).getD 0) : LineD)].length 1) rfl rfl ?_
        refine TL_append rfl rfl rfl rfl rfl slk (by simp only [List.length_cons, List.length_nil]; omega) ?_
        intro A51 c51
        rw [← hsn]
        refine TL_y rfl rfl (Y_assign rfl) ?_
        refine TL_nil ?_
        refine inB_normal ?_
        refine thenS_normal ?_
        refine T_region_last ?_
        refine TL_y rfl rfl (Y_add rfl rfl (by omega)) ?_
        refine TL_name 52 (v' := .int .i64 ((j + 1 : Nat) : Int)) rfl (rfl) ?_
        refine TL_y rfl rfl (Y_move rfl) ?_
        refine TL_nil ?_
        refine thenS_normal ?_
        exact ⟨⟨j + 1, A51, c51⟩, (by simp only; omega), by simp only; omega, holds_to (sub_cons rfl (sub_cons rfl (sub_cons rfl (sub_cons rfl (sub_cons rfl (sub_nil)))))) GivesTo.g⟩
      · rw [if_neg h43, List.append_nil] at hsn
        rw [← hsn]
        refine T_skip ?_
        refine inB_normal ?_
        refine thenS_normal ?_
        refine T_region_last ?_
        refine TL_y rfl rfl (Y_add rfl rfl (by omega)) ?_
        refine TL_name 52 (v' := .int .i64 ((j + 1 : Nat) : Int)) rfl (rfl) ?_
        refine TL_y rfl rfl (Y_move rfl) ?_
        refine TL_nil ?_
        refine thenS_normal ?_
        exact ⟨⟨j + 1, X, cx⟩, (by simp only; omega), by simp only; omega, holds_to (sub_cons rfl (sub_cons rfl (sub_cons rfl (sub_cons rfl (sub_cons rfl (sub_nil)))))) GivesTo.g⟩
    · refine T_exit ?_
      refine thenS_exit ?_
      refine thenS_exit ?_
      refine inB_hit ?_
      refine thenS_normal ?_
      refine T_region ?_
      refine TL_y rfl rfl (Y_move rfl) ?_
      refine TL_y rfl rfl (Y_assign rfl) ?_
      refine TL_nil ?_
      refine T_ret ?_
      rw [List.take_of_length_le (show (srtS ks).length ≤ j by omega)]
      have hres := isLines_of hq hI hnd hkp
      exact RetG_1 (.inl rfl) rfl (ResV.tmp rfl) GivesTo.g (⟨X, cx, linesM m (srtS ks), rfl, rfl, hres, Nat.le_trans (linesM_len _ _) hkl⟩)
end Go.SL
set_option linter.unusedVariables false
namespace Go.SL
open Go
variable {r : Option Nat} {n : Nat} {P : Program} {s : St} {Q : Exit → St → Prop}
theorem vs_adds {ops : Array Oper} {X : List (Nat × Nat)} : ∀ {l : List Nat} {p : Nat → Prop}, (∀ e ∈ X, ∀ s1 s2, l = s1 ++ e.2 :: s2 → e.1 ∈ s1 ∨ p e.1) → VS [] ops p l → VS X ops p l
  | [], _, _, _ => trivial
  | k :: r, p, h, ⟨h1, h2⟩ => by
    refine ⟨fun o ho e he => ?_, vs_adds (fun x hx s1 s2 e => ?_) h2⟩
    · rcases List.mem_append.1 he with he | he
      · exact h1 o ho e (by rw [depsX_nil]; exact he)
      · obtain ⟨x, hx, rfl⟩ := List.mem_map.1 he
        have hx := List.mem_filter.1 hx
        have hk : x.2 = k := Nat.eq_of_beq_eq_true hx.2
        rcases h x hx.1 [] r (by rw [hk]; rfl) with h | h
        · cases h
        · exact h
    · rcases h x hx (k :: s1) s2 (by rw [e]; rfl) with h | h
      · rcases List.mem_cons.1 h with h | h
        · exact .inr (.inl h)
        · exact .inl h
      · exact .inr (.inr h)
/-- The region, in whatever order that keeps the pairs of X. -/
def RD (r : Option Nat) (n : Nat) (P : Program) (l : List Oper) (X : List (Nat × Nat)) (s : St) (Q : Exit → St → Prop) : Prop :=
  ∀ W a w, Holds n W s a w → ∀ sched : List Nat, VS [] l.toArray (fun i => (Array.replicate l.length false).getD i false = true) sched → (∀ e ∈ X, ∀ s1 s2, sched = s1 ++ e.2 :: s2 → e.1 ∈ s1) → (∀ i, i < l.length → i ∈ sched) → sched.Nodup → (∀ i ∈ sched, i < l.length) → sched.length = l.length →
    wpOpsIn (Fw r) 0 P l.toArray (fun e a w => ∃ s', Q e s' ∧ Holds n W s' a w) sched a w
theorem RD_leaf {l : List Oper} {X : List (Nat × Nat)} (Fl : List HP) (B tl : List Nat) (π : List (Nat × Bool)) (hok : regionOk X l B tl π = true) (hFl : Gives s.L Fl) (h : TF r n P l.toArray tl Fl π s (fun s' => Q .normal s')) : RD r n P l X s Q := fun W a w hh sched k1 hX k2 k3 k4 k5 =>
  wpF_ops (fun a' w' s' hk hh' => ⟨s', hk, hh'⟩) _ _ _ (region_run Fl B tl π hok hFl h hh (vs_adds (fun e he s1 s2 h => .inl (hX e he s1 s2 h)) k1) k2 k3 k4 k5)
theorem RD_pair {l : List Oper} {X : List (Nat × Nat)} (i j : Nat) (hij : i ≠ j) (h1 : RD r n P l ((i, j) :: X) s Q) (h2 : RD r n P l ((j, i) :: X) s Q) : RD r n P l X s Q := fun W a w hh sched k1 hX k2 k3 k4 k5 => by
  rcases order_or hij sched with ho | ho
  · exact h1 W a w hh sched k1 (fun e he => by rcases List.mem_cons.1 he with rfl | he; exact ho; exact hX e he) k2 k3 k4 k5
  · exact h2 W a w hh sched k1 (fun e he => by rcases List.mem_cons.1 he with rfl | he; exact ho; exact hX e he) k2 k3 k4 k5
theorem T_rd_last {id : Nat} {l : List Oper} (B : List Nat) (hmix : P.follows .mixedOrders = true) (hm : masksOk [] B l 0 = true) (h : RD r n P l [] s Q) : T r n P (.region id l.toArray true) s Q := fun W a w hh => by
  refine wpIn_region_draw fun t => ?_
  simp only [Region.schedule, hmix, Bool.true_or, if_true]
  obtain ⟨k1, k2, k3, k4, k5⟩ := sched_ok hm l.length t (Array.replicate l.length false) (by simp) (unl_all l)
  have hlin : Region.linearise .any l.toArray t = Region.linearise.go .any l.toArray l.length t (Array.replicate l.length false) [] := by
    simp [Region.linearise]
  rw [hlin]
  exact h W a _ ⟨hh.1, hh.2.drew⟩ _ k1 (fun e he => by cases he) (fun i hi => k2 i hi (by simp [Array.getD_eq_getD_getElem?, hi])) k3 (fun i hi => (k4 i hi).1) k5
theorem T_rd {id : Nat} {l : List Oper} {y : Code} (B : List Nat) (hmix : P.follows .mixedOrders = true) (hm : masksOk [] B l 0 = true) (h : RD r n P l [] s (thenS (fun s' => T r n P y s' Q) Q)) : T r n P (.seq (.region id l.toArray true) y) s Q := T_seq (T_rd_last B hmix hm h)
end Go.SL
set_option linter.unusedVariables false
set_option linter.unusedSimpArgs false
namespace Go.SL
open Go Go.Proofs
theorem right_snoc {l : List EventD} {i : Nat} {x : EventD} (h : RightC (l.take i)) (hx : l[i]? = some x) (hq : 0 ≤ x.qty ∧ x.qty ≤ 1000) (hd : ∀ a ∈ l.take i, a.dot = x.dot → a = x) : RightC (l.take (i + 1)) := by
  rw [takeAt hx]
  refine ⟨fun e he => ?_, fun a ha b hb hab => ?_⟩
  · rcases List.mem_append.1 he with he | he
    · exact h.qty e he
    · rw [List.mem_singleton.1 he]; exact hq
  · rcases List.mem_append.1 ha with ha | ha
    · rcases List.mem_append.1 hb with hb | hb
      · exact h.one a ha b hb hab
      · rw [List.mem_singleton.1 hb] at hab ⊢; exact hd a ha hab
    · rcases List.mem_append.1 hb with hb | hb
      · rw [List.mem_singleton.1 ha] at hab ⊢; exact (hd b hb hab.symm).symm
      · rw [List.mem_singleton.1 ha, List.mem_singleton.1 hb]
theorem ofX_at {xs : List LineD} {i : Nat} {p : LineD} {sku : ByteArray} (h : xs[i]? = some p) (hp : p.1 = sku) (hn : ∀ q ∈ xs.take i, q.1 ≠ sku) : ofX xs sku = p.2 := by
  unfold ofX
  have e : xs = xs.take i ++ xs.drop i := (List.take_append_drop i xs).symm
  have hd : xs.drop i = p :: xs.drop (i + 1) := by
    rw [List.drop_eq_getElem_cons (List.getElem?_eq_some_iff.1 h).1, (List.getElem?_eq_some_iff.1 h).2]
  have h1 : (xs.take i).find? (fun p => decide (p.1 = sku)) = none := List.find?_eq_none.2 fun q hq => by simpa using hn q hq
  rw [e, List.find?_append, h1, hd, List.find?_cons_of_pos (by simpa using hp)]
  rfl
theorem ofX_none {xs : List LineD} {sku : ByteArray} (hn : ∀ q ∈ xs, q.1 ≠ sku) : ofX xs sku = 0 := by
  unfold ofX
  rw [List.find?_eq_none.2 fun q hq => by simpa using hn q hq]
theorem right11_spec {L : List HP} {A : Option Addr} {c : Nat} {l : List EventD} (hk : SlK L eventR A c l) : Fn Try.prog 13 #[.slice A l.length c] L (fun v L' => (∃ r : Bool, v = .bool r ∧ (r = true ↔ RightC l)) ∧ L' = L) := by
  refine Fn_enter Try.func13 rfl rfl rfl rfl ?_
  refine T_gives hk.lay ?_
  refine SlN.lens (sln (A := A) (c := c)) fun hl => ?_
  simp only [maxEl] at hl
  refine T_region ?_
  refine TL_y rfl rfl (Y_assign rfl) ?_
  refine TL_nil ?_
  refine T_seq ?_
  refine T_region ?_
  refine TL_y rfl rfl (Y_assign rfl) ?_
  refine TL_nil ?_
  refine T_block ?_
  refine T_loopK (σ := Nat) [0] (fun i => i ≤ l.length ∧ RightC (l.take i)) (fun i kv => (3, .int .i64 (i : Int)) :: kv) (fun i => sl eventR A c l :: L) (fun i => l.length - i) (0) rfl (⟨Nat.zero_le _, ⟨fun e h => by simp at h, fun a h => by simp at h⟩⟩) (GivesTo.g) (sub_cons rfl (sub_cons rfl (sub_nil))) ?_
  intro i hi
  refine T_seq ?_
  refine T_region ?_
  refine TL_y rfl rfl (Y_move rfl) ?_
  refine TL_y rfl rfl (Y_move rfl) ?_
  refine TL_y rfl rfl (Y_len rfl) ?_
  refine TL_y rfl rfl (Y_lt rfl rfl) ?_
  refine TL_nil ?_
  refine T_if rfl (fun h8 => ?_) (fun h8 => ?_)
  · refine T_skip ?_
    refine thenS_normal ?_
    refine T_seq ?_
    refine T_block ?_
    refine T_seq ?_
    obtain ⟨x, hx⟩ : ∃ x, l[i]? = some x := ⟨_, List.getElem?_eq_getElem (by omega)⟩
    refine T_region ?_
    refine TL_y rfl rfl (Y_move rfl) ?_
    refine TL_y rfl rfl (Y_move rfl) ?_
    refine TL_index_n rfl rfl rfl (rfl) ((sln (A := A) (c := c))) (hx) ?_
    intro bn13 on13 hA13 hk13
    have hu13 := hx
    refine TL_y rfl rfl (Y_field_addr2 rfl) ?_
    refine TL_y rfl rfl (Y_load_nx rfl hk13 hu13 (fun _ => rfl)) ?_
    refine TL_both 9 24 (x.qty < 0 ∨ 1000 < x.qty) ?_ ?_
    · refine TL_y rfl rfl (Y_lt rfl rfl) ?_
      refine TL_y rfl rfl (Y_move rfl) ?_
      refine TL_splitd 17 rfl (fun h17 => ?_) (fun h17 => ?_)
      · refine TL_gskip rfl rfl rfl rfl ?_
        refine TL_gskip rfl rfl rfl rfl ?_
        refine TL_gskip rfl rfl rfl rfl ?_
        refine TL_gskip rfl rfl rfl rfl ?_
        refine TL_gskip rfl rfl rfl rfl ?_
        refine TL_gskip rfl rfl rfl rfl ?_
        refine TL_y rfl rfl (Y_pick_t rfl rfl) ?_
        refine TL_chain_end rfl ?_ (by repeat (first | exact sub_refl | refine sub_ext rfl ?_)) GivesTo.g
        exact congrArg Value.bool (decide_eq_true (by omega)).symm
      · refine TL_grun rfl rfl ?_
        refine TL_y rfl rfl (Y_move rfl) ?_
        refine TL_grun rfl rfl ?_
        refine TL_y rfl rfl (Y_move rfl) ?_
        refine TL_grun rfl rfl ?_
        refine TL_index_n rfl rfl rfl (rfl) ((sln (A := A) (c := c))) (hx) ?_
        intro bn20 on20 hA20 hk20
        have hu20 := hx
        refine TL_grun rfl rfl ?_
        refine TL_y rfl rfl (Y_field_addr2 rfl) ?_
        refine TL_grun rfl rfl ?_
        refine TL_y rfl rfl (Y_load_nx rfl hk20 hu20 (fun _ => rfl)) ?_
        refine TL_grun rfl rfl ?_
        refine TL_y rfl rfl (Y_gt rfl rfl) ?_
        refine TL_y rfl rfl (Y_pick_f rfl rfl) ?_
        refine TL_chain_end rfl ?_ (by repeat (first | exact sub_refl | refine sub_ext rfl ?_)) GivesTo.g
        exact congrArg Value.bool (decide_eq_decide.2 (by omega))
    refine TL_nil ?_
    refine T_if rfl (fun h24 => ?_) (fun h24 => ?_)
    · refine T_region ?_
      refine TL_y rfl rfl (Y_assign rfl) ?_
      refine TL_nil ?_
      refine T_ret ?_
      refine thenS_ret ?_
      refine inB_ret ?_
      refine thenS_ret ?_
      refine thenS_ret ?_
      refine inB_ret ?_
      refine thenS_ret ?_
      exact RetG_1 (.inl rfl) rfl (ResV.tmp rfl) GivesTo.g (⟨⟨false, rfl, by simp; intro h; have := h.qty x (List.mem_of_getElem? hx); omega⟩, rfl⟩)
    · refine T_skip ?_
      refine thenS_normal ?_
      refine T_region ?_
      refine TL_y rfl rfl (Y_assign rfl) ?_
      refine TL_nil ?_
      refine T_block ?_
      refine T_loopK (σ := Nat) [0, 3] (fun k => k ≤ i ∧ ∀ a ∈ (l.take i).take k, a.dot = x.dot → a = x) (fun k kv => (4, .int .i64 (k : Int)) :: kv) (fun k => sl eventR A c l :: L) (fun k => i - k) (0) rfl (⟨Nat.zero_le _, by simp⟩) (GivesTo.g) (sub_cons rfl (sub_cons rfl (sub_cons rfl (sub_nil)))) ?_
      intro k hk2
      refine T_seq ?_
      refine T_region ?_
      refine TL_y rfl rfl (Y_move rfl) ?_
      refine TL_y rfl rfl (Y_move rfl) ?_
      refine TL_y rfl rfl (Y_lt rfl rfl) ?_
      refine TL_nil ?_
      refine T_if rfl (fun h27 => ?_) (fun h27 => ?_)
      · refine T_skip ?_
        refine thenS_normal ?_
        refine T_seq ?_
        refine T_block ?_
        obtain ⟨y, hy⟩ : ∃ y, l[k]? = some y := ⟨_, List.getElem?_eq_getElem (by omega)⟩
        have hyi : (l.take i)[k]? = some y := (by rw [List.getElem?_take_of_lt (by omega)]; exact hy)
        refine T_at (slk (A := A) (c := c)) hy fun b1 o1 l1 ha1 => ?_
        refine T_ex fun p1 ok1 => ?_
        simp only [List.cons_append, List.nil_append]
        refine T_at (slk (A := A) (c := c)) hx fun b2 o2 l2 ha2 => ?_
        refine T_ex fun p2 ok2 => ?_
        simp only [List.cons_append, List.nil_append]
        refine T_region_draw _ [0, 0, 3, 7, 15, 0, 0, 96, 224, 480, 1023, 2047, 4095, 4095, 16383, 32767, 4095, 4095, 200703, 462847, 1048575, 2097151, 4194303] [] [(0, true), (1, true), (2, true), (3, true), (4, true), (5, true), (6, true), (7, true), (8, true), (9, true), (10, true), (11, true), (12, true), (13, true), (14, true), (15, true), (16, true), (17, true), (18, true), (19, true), (20, false), (21, true), (22, true)] (by kernel_rfl) (by decide +kernel) (Gives.refl _) ?_
        refine TF_y rfl rfl (Y_move rfl) ?_
        refine TF_y rfl rfl (Y_move rfl) ?_
        refine TF_y rfl rfl (Y_index_at rfl rfl (by omega) ha1) ?_
        refine TF_y rfl rfl (Y_field_addr2 rfl) ?_
        refine TF_y rfl rfl (Y_load_row_agg (vs := [.int .i64 y.dot.1, .int .i64 y.dot.2]) rfl rfl) ?_
        refine TF_y rfl rfl (Y_move rfl) ?_
        refine TF_y rfl rfl (Y_move rfl) ?_
        refine TF_y rfl rfl (Y_index_at rfl rfl (by omega) ha2) ?_
        refine TF_y rfl rfl (Y_field_addr2 rfl) ?_
        refine TF_y rfl rfl (Y_load_row_agg (vs := [.int .i64 x.dot.1, .int .i64 x.dot.2]) rfl rfl) ?_
        refine TF_y rfl rfl (Y_eq_dot (a := y.dot) (b := x.dot) rfl rfl) ?_
        refine TF_y rfl rfl (Y_move rfl) ?_
        refine TF_splitd 41 rfl (fun h41 => ?_) (fun h41 => ?_)
        · refine TF_gy rfl rfl rfl rfl (Y_move rfl) ?_
          refine TF_gy rfl rfl rfl rfl (Y_move rfl) ?_
          refine TF_gy rfl rfl rfl rfl (Y_index_at rfl rfl (by omega) ha1) ?_
          refine TF_gy rfl rfl rfl rfl (Y_load_row_agg (vs := eventC y p1) rfl rfl) ?_
          refine TF_gy rfl rfl rfl rfl (Y_move rfl) ?_
          refine TF_gy rfl rfl rfl rfl (Y_move rfl) ?_
          refine TF_gy rfl rfl rfl rfl (Y_index_at rfl rfl (by omega) ha2) ?_
          refine TF_gy rfl rfl rfl rfl (Y_load_row_agg (vs := eventC x p2) rfl rfl) ?_
          refine TF_anchor rfl ?_
          refine TL_grun rfl rfl ?_
          refine TL_call rfl rfl (sameEvent_spec y x sln sln) ?_
          rintro _ _ ⟨rfl, rfl⟩
          refine TF_end GivesTo.g ?_
          refine TF_gy rfl rfl rfl rfl (Y_not_d rfl) ?_
          refine TF_y rfl rfl (Y_pick_t rfl rfl) ?_
          refine TF_nil ?_
          refine T_if rfl (fun h52 => ?_) (fun h52 => ?_)
          · refine T_region ?_
            refine TL_y rfl rfl (Y_assign rfl) ?_
            refine TL_nil ?_
            refine T_ret ?_
            refine inB_ret ?_
            refine thenS_ret ?_
            refine thenS_ret ?_
            refine inB_ret ?_
            refine inB_ret ?_
            refine thenS_ret ?_
            refine thenS_ret ?_
            refine inB_ret ?_
            refine thenS_ret ?_
            exact RetG_1 (.inl rfl) rfl (ResV.tmp rfl) GivesTo.g (⟨⟨false, rfl, by simp; intro h; exact h52 (h.one y (List.mem_of_getElem? hy) x (List.mem_of_getElem? hx) h41)⟩, rfl⟩)
          · refine T_skip ?_
            refine inB_normal ?_
            refine thenS_normal ?_
            refine T_region_last ?_
            refine TL_y rfl rfl (Y_move rfl) ?_
            refine TL_y rfl rfl (Y_add rfl rfl (by omega)) ?_
            refine TL_name 29 (v' := .int .i64 ((k + 1 : Nat) : Int)) rfl (rfl) ?_
            refine TL_y rfl rfl (Y_assign rfl) ?_
            refine TL_nil ?_
            refine thenS_normal ?_
            exact ⟨k + 1, ⟨by omega, by rw [takeAt hyi]; intro a ha h; rcases List.mem_append.1 ha with ha | ha; exact hk2.2 a ha h; (rw [List.mem_singleton.1 ha]; exact Classical.not_not.1 h52)⟩, by omega, holds_to (sub_cons rfl (sub_cons rfl (sub_cons rfl (sub_nil)))) GivesTo.g⟩
        · refine TF_gskip rfl rfl rfl rfl rfl ?_
          refine TF_gskip rfl rfl rfl rfl rfl ?_
          refine TF_gskip rfl rfl rfl rfl rfl ?_
          refine TF_gskip rfl rfl rfl rfl rfl ?_
          refine TF_gskip rfl rfl rfl rfl rfl ?_
          refine TF_gskip rfl rfl rfl rfl rfl ?_
          refine TF_gskip rfl rfl rfl rfl rfl ?_
          refine TF_gskip rfl rfl rfl rfl rfl ?_
          refine TF_anchor rfl ?_
          refine TL_gskip rfl rfl rfl rfl ?_
          refine TF_end GivesTo.g ?_
          refine TF_gskip rfl rfl rfl rfl rfl ?_
          refine TF_y rfl rfl (Y_pick_f rfl rfl) ?_
          refine TF_nil ?_
          refine T_cond_false rfl ?_
          refine T_skip ?_
          refine inB_normal ?_
          refine thenS_normal ?_
          refine T_region_last ?_
          refine TL_y rfl rfl (Y_move rfl) ?_
          refine TL_y rfl rfl (Y_add rfl rfl (by omega)) ?_
          refine TL_name 29 (v' := .int .i64 ((k + 1 : Nat) : Int)) rfl (rfl) ?_
          refine TL_y rfl rfl (Y_assign rfl) ?_
          refine TL_nil ?_
          refine thenS_normal ?_
          exact ⟨k + 1, ⟨by omega, by rw [takeAt hyi]; intro a ha h; rcases List.mem_append.1 ha with ha | ha; exact hk2.2 a ha h; (rw [List.mem_singleton.1 ha] at h ⊢; exact absurd h h41)⟩, by omega, holds_to (sub_cons rfl (sub_cons rfl (sub_cons rfl (sub_nil)))) GivesTo.g⟩
      · refine T_exit ?_
        refine thenS_exit ?_
        refine thenS_exit ?_
        refine inB_hit ?_
        refine inB_normal ?_
        refine thenS_normal ?_
        refine T_region_last ?_
        refine TL_y rfl rfl (Y_move rfl) ?_
        refine TL_y rfl rfl (Y_add rfl rfl (by omega)) ?_
        refine TL_name 10 (v' := .int .i64 ((i + 1 : Nat) : Int)) rfl (rfl) ?_
        refine TL_y rfl rfl (Y_assign rfl) ?_
        refine TL_nil ?_
        refine thenS_normal ?_
        exact ⟨i + 1, ⟨by omega, right_snoc hi.2 hx (by omega) (by have := hk2.2; rwa [List.take_of_length_le (by rw [List.length_take]; omega)] at this)⟩, by omega, holds_to (sub_cons rfl (sub_cons rfl (sub_nil))) GivesTo.g⟩
  · refine T_exit ?_
    refine thenS_exit ?_
    refine thenS_exit ?_
    refine inB_hit ?_
    refine thenS_normal ?_
    refine T_region ?_
    refine TL_y rfl rfl (Y_assign rfl) ?_
    refine TL_nil ?_
    refine T_ret ?_
    exact RetG_1 (.inl rfl) rfl (ResV.tmp rfl) GivesTo.g (⟨⟨true, rfl, by simp; have := hi.2; rwa [List.take_of_length_le (by omega)] at this⟩, rfl⟩)
theorem of11_spec {L : List HP} {A : Option Addr} {c : Nat} {xs : List LineD} (sku : ByteArray) (hk : SlN L lineR A c xs) : Fn Try.prog 15 #[.slice A xs.length c, .string sku] L (fun v L' => v = .int .i64 (ofX xs sku) ∧ L' = L) := by
  refine Fn_enter Try.func15 rfl rfl rfl rfl ?_
  refine hk.lens fun hl => ?_
  simp only [maxEl] at hl
  refine T_region ?_
  refine TL_y rfl rfl (Y_assign rfl) ?_
  refine TL_nil ?_
  refine T_seq ?_
  refine T_region ?_
  refine TL_y rfl rfl (Y_assign rfl) ?_
  refine TL_nil ?_
  refine T_block ?_
  refine T_loopK (σ := Nat) [0, 1] (fun i => i ≤ xs.length ∧ ∀ p ∈ xs.take i, p.1 ≠ sku) (fun i kv => (5, .int .i64 (i : Int)) :: kv) (fun i => L) (fun i => xs.length - i) (0) rfl (⟨Nat.zero_le _, by simp⟩) (GivesTo.g) (sub_cons rfl (sub_cons rfl (sub_cons rfl (sub_nil)))) ?_
  intro i hi
  refine T_seq ?_
  refine T_region ?_
  refine TL_y rfl rfl (Y_move rfl) ?_
  refine TL_y rfl rfl (Y_move rfl) ?_
  refine TL_y rfl rfl (Y_len rfl) ?_
  refine TL_y rfl rfl (Y_lt rfl rfl) ?_
  refine TL_nil ?_
  refine T_if rfl (fun h9 => ?_) (fun h9 => ?_)
  · refine T_skip ?_
    refine thenS_normal ?_
    refine T_seq ?_
    refine T_block ?_
    obtain ⟨p, hp⟩ : ∃ p, xs[i]? = some p := ⟨_, List.getElem?_eq_getElem (by omega)⟩
    refine T_region ?_
    refine TL_y rfl rfl (Y_move rfl) ?_
    refine TL_y rfl rfl (Y_move rfl) ?_
    refine TL_index_n rfl rfl rfl (rfl) (hk) (hp) ?_
    intro bn14 on14 hA14 hk14
    have hu14 := hp
    refine TL_y rfl rfl (Y_field_addr2 rfl) ?_
    refine TL_y rfl rfl (Y_load_n rfl hk14 hu14 rfl) ?_
    refine TL_y rfl rfl (Y_move rfl) ?_
    refine TL_y rfl rfl (Y_str_eq rfl rfl) ?_
    refine TL_nil ?_
    refine T_if rfl (fun h18 => ?_) (fun h18 => ?_)
    · refine T_region ?_
      refine TL_y rfl rfl (Y_move rfl) ?_
      refine TL_y rfl rfl (Y_move rfl) ?_
      refine TL_index_n rfl rfl rfl (rfl) (hk) (hp) ?_
      intro bn21 on21 hA21 hk21
      have hu21 := hp
      refine TL_y rfl rfl (Y_field_addr2 rfl) ?_
      refine TL_y rfl rfl (Y_load_n rfl hk21 hu21 rfl) ?_
      refine TL_y rfl rfl (Y_assign rfl) ?_
      refine TL_nil ?_
      refine T_ret ?_
      refine inB_ret ?_
      refine thenS_ret ?_
      refine thenS_ret ?_
      refine inB_ret ?_
      refine thenS_ret ?_
      exact RetG_1 (.inl rfl) rfl (ResV.tmp rfl) GivesTo.g (⟨congrArg (Value.int .i64) (ofX_at hp h18 hi.2).symm, rfl⟩)
    · refine T_skip ?_
      refine inB_normal ?_
      refine thenS_normal ?_
      refine T_region_last ?_
      refine TL_y rfl rfl (Y_move rfl) ?_
      refine TL_y rfl rfl (Y_add rfl rfl (by omega)) ?_
      refine TL_name 11 (v' := .int .i64 ((i + 1 : Nat) : Int)) rfl (rfl) ?_
      refine TL_y rfl rfl (Y_assign rfl) ?_
      refine TL_nil ?_
      refine thenS_normal ?_
      exact ⟨i + 1, ⟨by omega, by rw [takeAt hp]; intro q hq; rcases List.mem_append.1 hq with h | h; exact hi.2 q h; (rw [List.mem_singleton.1 h]; exact h18)⟩, by omega, holds_to (sub_cons rfl (sub_cons rfl (sub_cons rfl (sub_nil)))) GivesTo.g⟩
  · refine T_exit ?_
    refine thenS_exit ?_
    refine thenS_exit ?_
    refine inB_hit ?_
    refine thenS_normal ?_
    refine T_region ?_
    refine TL_y rfl rfl (Y_assign rfl) ?_
    refine TL_nil ?_
    refine T_ret ?_
    exact RetG_1 (.inl rfl) rfl (ResV.tmp rfl) GivesTo.g (⟨congrArg (Value.int .i64) (ofX_none (by have := hi.2; rwa [List.take_of_length_le (by omega)] at this)).symm, rfl⟩)
def totX (xs : List LineD) : Int := (xs.map fun p => p.2).sum
theorem totX_snoc {xs : List LineD} {i : Nat} {p : LineD} (h : xs[i]? = some p) : totX (xs.take (i + 1)) = totX (xs.take i) + p.2 := by
  unfold totX
  rw [takeAt h, List.map_append, List.sum_append]
  simp
theorem totX_take {xs : List LineD} (hp : ∀ p ∈ xs, 0 ≤ p.2) (i : Nat) : 0 ≤ totX (xs.take i) ∧ totX (xs.take i) ≤ totX xs := by
  have h0 : ∀ l : List LineD, (∀ p ∈ l, 0 ≤ p.2) → 0 ≤ totX l := by
    intro l
    induction l with
    | nil => intro _; exact Int.le_refl _
    | cons x r ih =>
      intro h
      have h1 := ih fun p hp => h p (List.mem_cons_of_mem _ hp)
      have h2 := h x List.mem_cons_self
      unfold totX at h1 ⊢
      rw [List.map_cons, List.sum_cons]; omega
  refine ⟨h0 _ fun p h => hp p (List.mem_of_mem_take h), ?_⟩
  have h1 : totX xs = totX (xs.take i) + totX (xs.drop i) := by
    conv => lhs; rw [← List.take_append_drop i xs]
    unfold totX
    rw [List.map_append, List.sum_append]
  have h2 := h0 (xs.drop i) fun p h => hp p (List.mem_of_mem_drop h)
  omega
theorem total_spec {L : List HP} {A : Option Addr} {c : Nat} {xs : List LineD} (hp : ∀ p ∈ xs, 0 ≤ p.2) (hb : totX xs ≤ 4611686018427387904) (hk : SlN L lineR A c xs) : Fn Try.prog 19 #[.slice A xs.length c] L (fun v L' => v = .int .i64 (totX xs) ∧ L' = L) := by
  refine Fn_enter Try.func19 rfl rfl rfl rfl ?_
  refine hk.lens fun hl => ?_
  simp only [maxEl] at hl
  refine T_region ?_
  refine TL_y rfl rfl (Y_assign rfl) ?_
  refine TL_nil ?_
  refine T_region ?_
  refine TL_y rfl rfl (Y_assign rfl) ?_
  refine TL_nil ?_
  refine T_seq ?_
  refine T_region ?_
  refine TL_y rfl rfl (Y_move rfl) ?_
  refine TL_y rfl rfl (Y_len rfl) ?_
  refine TL_y rfl rfl (Y_move rfl) ?_
  refine TL_nil ?_
  refine T_block ?_
  refine T_loopK (σ := Nat) [6, 7] (fun i => i ≤ xs.length) (fun i kv => (8, .int .i64 (i : Int)) :: (3, .int .i64 (totX (xs.take i))) :: kv) (fun i => L) (fun i => xs.length - i) (0) rfl (Nat.zero_le _) (GivesTo.g) (sub_cons rfl (sub_cons rfl (sub_cons rfl (sub_cons rfl (sub_nil))))) ?_
  intro i hi
  refine T_region ?_
  refine TL_y rfl rfl (Y_lt rfl rfl) ?_
  refine TL_nil ?_
  refine T_seq ?_
  refine T_if rfl (fun h9 => ?_) (fun h9 => ?_)
  · refine T_skip ?_
    refine thenS_normal ?_
    refine T_seq ?_
    refine T_block ?_
    obtain ⟨p, hpx⟩ : ∃ p, xs[i]? = some p := ⟨_, List.getElem?_eq_getElem (by omega)⟩
    have hts := totX_snoc hpx
    have ht1 := totX_take hp i
    have ht2 := totX_take hp (i + 1)
    have hpp := hp p (List.mem_of_getElem? hpx)
    refine T_region ?_
    refine TL_index_n rfl rfl rfl (rfl) (hk) (hpx) ?_
    intro bn10 on10 hA10 hk10
    have hu10 := hpx
    refine TL_y rfl rfl (Y_load_naf rfl hk10 hu10 rfl) ?_
    refine TL_alloc rfl rfl ?_
    intro b5
    refine TL_store rfl rfl rfl rfl rfl rfl ?_
    refine TL_nil ?_
    refine T_region_last ?_
    refine TL_y rfl rfl (Y_move rfl) ?_
    refine TL_y rfl rfl (Y_field_addr rfl) ?_
    refine TL_y rfl rfl (Y_load rfl rfl) ?_
    refine TL_y rfl rfl (Y_add rfl rfl (by omega)) ?_
    refine TL_name 15 (v' := .int .i64 (totX (xs.take (i + 1)))) rfl (by rw [hts]) ?_
    refine TL_y rfl rfl (Y_assign rfl) ?_
    refine TL_nil ?_
    refine inB_normal ?_
    refine thenS_normal ?_
    refine T_region_last ?_
    refine TL_y rfl rfl (Y_add rfl rfl (by omega)) ?_
    refine TL_name 16 (v' := .int .i64 ((i + 1 : Nat) : Int)) rfl (rfl) ?_
    refine TL_y rfl rfl (Y_move rfl) ?_
    refine TL_nil ?_
    refine thenS_normal ?_
    exact ⟨i + 1, (by omega), by omega, holds_to (sub_cons rfl (sub_cons rfl (sub_cons rfl (sub_cons rfl (sub_nil))))) GivesTo.g⟩
  · refine T_exit ?_
    refine thenS_exit ?_
    refine thenS_exit ?_
    refine inB_hit ?_
    refine thenS_normal ?_
    refine T_region ?_
    refine TL_y rfl rfl (Y_move rfl) ?_
    refine TL_y rfl rfl (Y_assign rfl) ?_
    refine TL_nil ?_
    refine T_ret ?_
    rw [List.take_of_length_le (show xs.length ≤ i by omega)]
    exact RetG_1 (.inl rfl) rfl (ResV.tmp rfl) GivesTo.g (⟨rfl, rfl⟩)
abbrev lineV (t : LineD) : Value := .agg (List.toArray (lineC t))
theorem line_guard : Try.prog.eqGuardType Try.prog.depth 65 = false := by kernel_rfl
theorem line_held : Try.prog.stoodInHeld 65 = false := by kernel_rfl
theorem line_eq0 (dd : Nat) (w : World) (a b : LineD) : (Op.equalIn (dd + 2) 65 (lineV a) (lineV b)).run Try.prog w = .ok (decide (a = b)) w := by
  have hn : ∀ x y, (Op.equalIn (dd + 1) 3 (.int .i64 x) (.int .i64 y)).run Try.prog w = .ok (decide (x = y)) w := fun x y => EqIs.int (k := .i64) dd w
  have hs : ∀ x y, (Op.equalIn (dd + 1) 9 (.string x) (.string y)).run Try.prog w = .ok (decide (x = y)) w := fun x y => EqIs.str dd w
  generalize hdd : dd + 1 = d1 at hn hs
  have : dd + 2 = d1 + 1 := by omega
  rw [this]
  simp [Op.equalIn, Try.runUnderlying65, line_held, part, Try.isAgg3, Try.isAgg9, hn, hs]
  by_cases h1 : a.1 = b.1 <;> by_cases h2 : a.2 = b.2 <;> simp [h1, h2, Prod.ext_iff]
section
variable {E : Env} {L : List HP} {ty : TypeId}
theorem line_eq1 (w : World) (a b : LineD) : (Op.equal 65 (lineV a) (lineV b)).run Try.prog w = .ok (decide (a = b)) w := line_eq0 9998 w a b
theorem Y_eq_line {x y : Operand} {t' : TypeId} {a b : LineD} (hx : ev E x = some (lineV a)) (hy : ev E y = some (lineV b)) : Yl Try.prog E L (.binOp .eql 65 x y t') ty (.bool (decide (a = b))) := fun n D W ac w dst pos af g hv hs => by
  have h3 : ∀ xs ys : Array Value, Go.binOp .eql 65 (.agg xs) (.agg ys) = (do Pure.pure (Value.bool (← Op.equal 65 (.agg xs) (.agg ys))) : Sem Value) := fun xs ys => by simp only [Go.binOp]
  simp only [execOp, hv.ev hx, hv.ev hy, eqGuard, h3]
  simp [line_guard, line_eq1]
theorem Y_ne_line {x y : Operand} {t' : TypeId} {a b : LineD} (hx : ev E x = some (lineV a)) (hy : ev E y = some (lineV b)) : Yl Try.prog E L (.binOp .neq 65 x y t') ty (.bool (!decide (a = b))) := fun n D W ac w dst pos af g hv hs => by
  have h3 : ∀ xs ys : Array Value, Go.binOp .neq 65 (.agg xs) (.agg ys) = (do Pure.pure (Value.bool (!(← Op.equal 65 (.agg xs) (.agg ys)))) : Sem Value) := fun xs ys => by simp only [Go.binOp]
  simp only [execOp, hv.ev hx, hv.ev hy, eqGuard, h3]
  simp [line_guard, line_eq1]
end
theorem equalL_spec {L : List HP} {A B : Option Addr} {c d : Nat} {xs ys : List LineD} (hk : SlN L lineR A c xs) (hk2 : SlN L lineR B d ys) : Fn Try.prog 62 #[.slice A xs.length c, .slice B ys.length d] L (fun v L' => v = .bool (decide (xs = ys)) ∧ L' = L) := by
  refine Fn_enter Try.func62 rfl rfl rfl rfl ?_
  refine hk.lens fun hl => ?_
  simp only [maxEl] at hl
  refine T_region ?_
  refine TL_y rfl rfl (Y_assign rfl) ?_
  refine TL_nil ?_
  refine T_seq ?_
  refine T_region ?_
  refine TL_y rfl rfl (Y_move rfl) ?_
  refine TL_y rfl rfl (Y_len rfl) ?_
  refine TL_y rfl rfl (Y_move rfl) ?_
  refine TL_y rfl rfl (Y_len rfl) ?_
  refine TL_y rfl rfl (Y_ne rfl rfl) ?_
  refine TL_nil ?_
  refine T_if rfl (fun h10 => ?_) (fun h10 => ?_)
  · refine T_region ?_
    refine TL_y rfl rfl (Y_assign rfl) ?_
    refine TL_nil ?_
    refine T_ret ?_
    refine thenS_ret ?_
    exact RetG_1 (.inl rfl) rfl (ResV.tmp rfl) GivesTo.g (⟨by rw [decide_eq_false]; rintro rfl; exact h10 rfl, rfl⟩)
  · refine T_skip ?_
    refine thenS_normal ?_
    refine T_seq ?_
    refine T_region ?_
    refine TL_y rfl rfl (Y_move rfl) ?_
    refine TL_y rfl rfl (Y_len rfl) ?_
    refine TL_y rfl rfl (Y_move rfl) ?_
    refine TL_nil ?_
    refine T_block ?_
    refine T_loopK (σ := Nat) [0, 1, 12] (fun i => i ≤ xs.length ∧ xs.take i = ys.take i) (fun i kv => (13, .int .i64 (i : Int)) :: kv) (fun i => L) (fun i => xs.length - i) (0) rfl (⟨Nat.zero_le _, rfl⟩) (GivesTo.g) (sub_cons rfl (sub_cons rfl (sub_cons rfl (sub_cons rfl (sub_nil))))) ?_
    intro i hi
    refine T_region ?_
    refine TL_y rfl rfl (Y_lt rfl rfl) ?_
    refine TL_nil ?_
    refine T_seq ?_
    refine T_if rfl (fun h14 => ?_) (fun h14 => ?_)
    · refine T_skip ?_
      refine thenS_normal ?_
      refine T_seq ?_
      refine T_block ?_
      refine T_region ?_
      refine TL_y rfl rfl (Y_move rfl) ?_
      refine TL_y rfl rfl (Y_assign rfl) ?_
      refine TL_nil ?_
      have hx := List.getElem?_eq_getElem (show i < xs.length by omega)
      have hy := List.getElem?_eq_getElem (show i < ys.length by omega)
      refine T_addr_n hk hx fun b1 o1 e1 => ?_
      refine T_addr_n hk2 hy fun b2 o2 e2 => ?_
      subst e1
      subst e2
      refine T_region_draw _ [0, 0, 3, 7, 0, 0, 48, 112, 255] [] [(0, true), (1, true), (2, true), (3, true), (4, true), (5, true), (6, true), (7, true), (8, true)] (by kernel_rfl) (by decide +kernel) (Gives.refl _) ?_
      refine TF_y rfl rfl (Y_move rfl) ?_
      refine TF_y rfl rfl (Y_move rfl) ?_
      refine TF_y rfl rfl (Y_index_n (R := lineR) (xs := xs) rfl rfl rfl hx) ?_
      refine TF_y rfl rfl (Y_load_naf (q := 0) (vs := lineC xs[i]) rfl hk hx rfl) ?_
      refine TF_y rfl rfl (Y_move rfl) ?_
      refine TF_y rfl rfl (Y_move rfl) ?_
      refine TF_y rfl rfl (Y_index_n (R := lineR) (xs := ys) rfl rfl rfl hy) ?_
      refine TF_y rfl rfl (Y_load_naf (q := 0) (vs := lineC ys[i]) rfl hk2 hy rfl) ?_
      refine TF_y rfl rfl (Y_ne_line rfl rfl) ?_
      refine TF_name 24 (v' := .bool (decide (xs[i] ≠ ys[i]))) rfl (by by_cases h : xs[i] = ys[i] <;> simp [h]) ?_
      refine TF_nil ?_
      refine T_if rfl (fun h24 => ?_) (fun h24 => ?_)
      · refine T_region ?_
        refine TL_y rfl rfl (Y_assign rfl) ?_
        refine TL_nil ?_
        refine T_ret ?_
        refine inB_ret ?_
        refine thenS_ret ?_
        refine thenS_ret ?_
        refine inB_ret ?_
        refine thenS_ret ?_
        exact RetG_1 (.inl rfl) rfl (ResV.tmp rfl) GivesTo.g (⟨by rw [decide_eq_false]; rintro rfl; exact h24 rfl, rfl⟩)
      · refine T_skip ?_
        refine inB_normal ?_
        refine thenS_normal ?_
        refine T_region_last ?_
        refine TL_y rfl rfl (Y_add rfl rfl (by omega)) ?_
        refine TL_name 25 (v' := .int .i64 ((i + 1 : Nat) : Int)) rfl (by simp) ?_
        refine TL_y rfl rfl (Y_move rfl) ?_
        refine TL_nil ?_
        refine thenS_normal ?_
        exact ⟨i + 1, ⟨by omega, takeStep hi.2 hx hy (Classical.not_not.1 h24)⟩, by omega, holds_to (sub_cons rfl (sub_cons rfl (sub_cons rfl (sub_cons rfl (sub_nil))))) GivesTo.g⟩
    · refine T_exit ?_
      refine thenS_exit ?_
      refine thenS_exit ?_
      refine inB_hit ?_
      refine thenS_normal ?_
      refine T_region ?_
      refine TL_y rfl rfl (Y_assign rfl) ?_
      refine TL_nil ?_
      refine T_ret ?_
      exact RetG_1 (.inl rfl) rfl (ResV.tmp rfl) GivesTo.g (⟨by rw [decide_eq_true (takeAll hi.2 (by omega) (by omega))], rfl⟩)
theorem sameL_spec {L : List HP} {A B : Option Addr} {c d : Nat} {xs ys : List LineD} (hk : SlN L lineR A c xs) (hk2 : SlN L lineR B d ys) : Fn Try.prog 35 #[.slice A xs.length c, .slice B ys.length d] L (fun v L' => v = .bool (decide (xs = ys)) ∧ L' = L) := by
  refine Fn_enter Try.func35 rfl rfl rfl rfl ?_
  refine T_region ?_
  refine TL_y rfl rfl (Y_assign rfl) ?_
  refine TL_nil ?_
  refine T_region ?_
  refine TL_y rfl rfl (Y_move rfl) ?_
  refine TL_y rfl rfl (Y_move rfl) ?_
  refine TL_call rfl rfl (equalL_spec hk hk2) ?_
  rintro _ _ ⟨rfl, rfl⟩
  refine TL_y rfl rfl (Y_assign rfl) ?_
  refine TL_nil ?_
  refine T_ret ?_
  exact RetG_1 (.inl rfl) rfl (ResV.tmp rfl) GivesTo.g (⟨rfl, rfl⟩)
end Go.SL
set_option linter.unusedVariables false
set_option linter.unusedSimpArgs false
namespace Go.SL
open Go Go.Proofs
theorem cells_cons {α : Type} {R : Rep α} {L : List HP} {x : α} {xs : List α} {l cs : List Value} (h : Knows L (fun M => R.rep M x l)) (k : Knows L (fun M => CellsOf M R xs cs)) : Knows L (fun M => CellsOf M R (x :: xs) (l ++ cs)) := (h.and k).mono fun M h => ⟨l, cs, h.1, h.2, rfl⟩
abbrev lc1 : EventD := ⟨(0, 1), [], ⟨#[99]⟩, 0, ⟨#[116, 101, 97]⟩, 2, false⟩
abbrev lc2 : EventD := ⟨(1, 1), [], ⟨#[99]⟩, 0, ⟨#[116, 101, 97]⟩, 1, false⟩
abbrev lc3 : EventD := ⟨(0, 2), [1], ⟨#[99]⟩, 0, ⟨#[116, 101, 97]⟩, 0, true⟩
theorem lc_stand : standC [lc1, lc2, lc3] = [lc2, lc3] := by decide +kernel
theorem lc_count : countC [lc1, lc2, lc3] = [lc2, lc3] := by decide +kernel
theorem lc_line (k : ByteArray) : lineF [lc1, lc2, lc3] ⟨#[99]⟩ k = if (⟨#[116, 101, 97]⟩ : ByteArray) = k then 1 else 0 := by
  rw [lineF_eq, lc_count]
  by_cases h : (⟨#[116, 101, 97]⟩ : ByteArray) = k <;> simp [ofC, h, sumC]
theorem lc_lines : IsLines [lc1, lc2, lc3] ⟨#[99]⟩ [(⟨#[116, 101, 97]⟩, 1)] := ⟨List.pairwise_singleton _ _, fun k q => by
  rw [lc_line, List.mem_singleton, Prod.mk.injEq]
  constructor
  · rintro ⟨rfl, rfl⟩; simp
  · rintro ⟨h1, h2⟩
    by_cases h : (⟨#[116, 101, 97]⟩ : ByteArray) = k
    · rw [if_pos h] at h1; exact ⟨h.symm, h1⟩
    · rw [if_neg h] at h1; omega, by rw [lc_count]; decide +kernel⟩
theorem lc_xs {xs : List LineD} (h : IsLines [lc1, lc2, lc3] ⟨#[99]⟩ xs) : xs = [(⟨#[116, 101, 97]⟩, 1)] := h.ext lc_lines fun _ => rfl
theorem evOk_mk {e : EventD} (h1 : 0 ≤ e.dot.1 ∧ e.dot.1 ≤ 1000 ∧ 0 ≤ e.dot.2 ∧ e.dot.2 ≤ 1000) (h2 : e.deps.length ≤ 1000) (h3 : e.cart.size ≤ maxEl) (h4 : e.epoch = 0) (h5 : e.sku.size ≤ maxEl) (h6 : 0 ≤ e.qty ∧ e.qty ≤ 1000) : eventOk e := ⟨i64In_mk (by omega), i64In_mk (by omega), by omega, h3, i64In_mk (by omega), h5, i64In_mk (by omega)⟩
theorem lc_size3 : (⟨#[116, 101, 97]⟩ : ByteArray).size ≤ maxEl := by show (3 : Nat) ≤ maxEl; decide
theorem lc_size1 : (⟨#[99]⟩ : ByteArray).size ≤ maxEl := by show (1 : Nat) ≤ maxEl; decide
theorem lc1_ok : eventOk lc1 := evOk_mk (by decide) (by decide) lc_size1 rfl lc_size3 (by decide)
theorem lc2_ok : eventOk lc2 := evOk_mk (by decide) (by decide) lc_size1 rfl lc_size3 (by decide)
theorem lc3_ok : eventOk lc3 := evOk_mk (by decide) (by decide) lc_size1 rfl lc_size3 (by decide)
theorem lives11_spec (L : List HP) : Fn Try.prog 12 #[] L (fun v L' => v = .bool true ∧ L' = L) := by
  refine Fn_enter Try.func12 rfl rfl rfl rfl ?_
  refine T_gives (slnil (R := intR .i64) (A := none) (c := 0)).lay ?_
  refine T_region ?_
  refine TL_y rfl rfl (Y_assign rfl) ?_
  refine TL_nil ?_
  refine T_region ?_
  refine TL_y rfl rfl (Y_build rfl rfl) ?_
  refine TL_y rfl rfl (Y_build rfl rfl) ?_
  refine TL_y rfl rfl (Y_build rfl rfl) ?_
  refine TL_y rfl rfl (Y_build rfl rfl) ?_
  refine TL_y rfl rfl (Y_build rfl rfl) ?_
  refine TL_build_slice rfl rfl rfl rfl rfl rfl ?_
  intro b8
  refine TL_osl (k := 1) (intR .i64) [1] (Knows.const (cells_ints (xs := [1]) (k := .i64) (fun x hx => by rw [List.mem_singleton.1 hx]; decide))) rfl (by decide) ?_
  refine TL_freeze_osl ?_
  refine TL_y rfl rfl (Y_build rfl rfl) ?_
  refine TL_build_slice rfl rfl rfl rfl rfl rfl ?_
  intro b10
  refine TL_osl (k := 3) eventR [lc1, lc2, lc3] (cells_cons (ex_rep (u := lc1) ((none : Option Addr), (0 : Nat)) (sep_sl slk) lc1_ok) (cells_cons (ex_rep (u := lc2) ((none : Option Addr), (0 : Nat)) (sep_sl slk) lc2_ok) (cells_one' (ex_rep (u := lc3) ((some ⟨b8, 0, none⟩ : Option Addr), (1 : Nat)) (sep_sl slk) lc3_ok)))) rfl (by decide) ?_
  refine TL_freeze_osl ?_
  refine TL_name 10 (v' := .slice (some ⟨b10, 0, none⟩) [lc1, lc2, lc3].length 3) rfl rfl ?_
  refine TL_y rfl rfl (Y_assign rfl) ?_
  refine TL_nil ?_
  refine T_region ?_
  refine TL_y rfl rfl (Y_move rfl) ?_
  refine TL_call rfl rfl (lines_spec (l := [lc1, lc2, lc3]) ⟨#[99]⟩ slk (by decide) (by decide)) ?_
  rintro _ _ ⟨A12, c12, xs12, rfl, rfl, hx12, hl12⟩
  obtain rfl := lc_xs hx12
  refine TL_freeze_osl ?_
  refine TL_y rfl rfl (Y_assign rfl) ?_
  refine TL_nil ?_
  refine T_region ?_
  refine TL_y rfl rfl (Y_move rfl) ?_
  refine TL_y rfl rfl (Y_len rfl) ?_
  refine TL_y rfl rfl (Y_eq rfl rfl) ?_
  refine TL_name 15 (v' := .bool true) rfl (rfl) ?_
  refine TL_y rfl rfl (Y_move rfl) ?_
  refine TL_grun rfl rfl ?_
  refine TL_y rfl rfl (Y_move rfl) ?_
  refine TL_grun rfl rfl ?_
  refine TL_index_n rfl rfl rfl (rfl) ((sln (A := A12) (c := c12) (R := lineR) (xs := [(⟨#[116, 101, 97]⟩, 1)]))) (show ([(⟨#[116, 101, 97]⟩, 1)] : List LineD)[0]? = some (⟨#[116, 101, 97]⟩, 1) from rfl) ?_
  intro bn18 on18 hA18 hk18
  have hu18 := show ([(⟨#[116, 101, 97]⟩, 1)] : List LineD)[0]? = some (⟨#[116, 101, 97]⟩, 1) from rfl
  refine TL_grun rfl rfl ?_
  refine TL_y rfl rfl (Y_load_naf (q := 0) (vs := lineC (⟨#[116, 101, 97]⟩, 1)) rfl hk18 hu18 rfl) ?_
  refine TL_grun rfl rfl ?_
  refine TL_y rfl rfl (Y_build rfl rfl) ?_
  refine TL_grun rfl rfl ?_
  refine TL_y rfl rfl (Y_eq_line (a := (⟨#[116, 101, 97]⟩, 1)) (b := (⟨#[116, 101, 97]⟩, 1)) rfl rfl) ?_
  refine TL_name 21 (v' := .bool true) rfl (congrArg Value.bool (decide_eq_true rfl)) ?_
  refine TL_y rfl rfl (Y_pick_t rfl rfl) ?_
  refine TL_y rfl rfl (Y_move rfl) ?_
  refine TL_grun rfl rfl ?_
  refine TL_y rfl rfl (Y_move rfl) ?_
  refine TL_grun rfl rfl ?_
  refine TL_call rfl rfl (total_spec (xs := [(⟨#[116, 101, 97]⟩, 1)]) (by decide) (by decide) sln) ?_
  rintro _ _ ⟨rfl, rfl⟩
  refine TL_grun rfl rfl ?_
  refine TL_y rfl rfl (Y_eq rfl rfl) ?_
  refine TL_name 26 (v' := .bool true) rfl (congrArg Value.bool (decide_eq_true rfl)) ?_
  refine TL_y rfl rfl (Y_pick_t rfl rfl) ?_
  refine TL_y rfl rfl (Y_move rfl) ?_
  refine TL_grun rfl rfl ?_
  refine TL_y rfl rfl (Y_move rfl) ?_
  refine TL_grun rfl rfl ?_
  refine TL_call rfl rfl (stand_spec (l := [lc1, lc2, lc3]) slk (by decide)) ?_
  rintro _ _ ⟨A30, c30, rfl, rfl⟩
  refine TL_grun rfl rfl ?_
  refine TL_y rfl rfl (Y_len rfl) ?_
  refine TL_grun rfl rfl ?_
  refine TL_y rfl rfl (Y_eq rfl rfl) ?_
  refine TL_name 32 (v' := .bool true) rfl (by rw [lc_stand]; rfl) ?_
  refine TL_y rfl rfl (Y_pick_t rfl rfl) ?_
  refine TL_y rfl rfl (Y_move rfl) ?_
  refine TL_grun rfl rfl ?_
  refine TL_y rfl rfl (Y_move rfl) ?_
  refine TL_grun rfl rfl ?_
  refine TL_y rfl rfl (Y_move rfl) ?_
  refine TL_grun rfl rfl ?_
  refine TL_call rfl rfl (sameL_spec (xs := [(⟨#[116, 101, 97]⟩, 1)]) (ys := [(⟨#[116, 101, 97]⟩, 1)]) sln sln) ?_
  rintro _ _ ⟨rfl, rfl⟩
  refine TL_name 37 (v' := .bool true) rfl (congrArg Value.bool (decide_eq_true rfl)) ?_
  refine TL_y rfl rfl (Y_pick_t rfl rfl) ?_
  refine TL_y rfl rfl (Y_assign rfl) ?_
  refine TL_nil ?_
  refine T_ret ?_
  exact RetG_1 (.inl rfl) rfl (ResV.tmp rfl) GivesTo.g (⟨rfl, rfl⟩)
/-! ### What a removal had not seen -/
abbrev apE (name sku : ByteArray) (qty : Int) : EventD := ⟨(6, 1), [], name, 0, sku, qty, false⟩
theorem ap_line {l : List EventD} (h : RightC l) {name sku : ByteArray} {qty : Int} (hq : 1 ≤ qty ∧ qty ≤ 1000) (hd : ∀ e ∈ l, e.dot.1 ≠ 6 ∧ ¬ 0 < ofV e.deps 6) : lineF (l ++ [apE name sku qty]) name sku = lineF l name sku + qty := by
  rw [line_more h (x := apE name sku qty) (by simp only; omega) (fun e he h2 => (hd e he).1 (by rw [h2])) rfl ?_ name sku, if_pos (by simp [ofC])]
  rintro ⟨x, hx, _, _, _, h4⟩
  exact (hd x hx).2 (by have := h4; unfold hasV at this; simp only at this; omega)
theorem qty_snoc {l : List EventD} {x : EventD} (h : ∀ e ∈ l, 0 ≤ e.qty ∧ e.qty ≤ 1000) (hx : 0 ≤ x.qty ∧ x.qty ≤ 1000) : ∀ e ∈ l ++ [x], 0 ≤ e.qty ∧ e.qty ≤ 1000 := fun e he => by
  rcases List.mem_append.1 he with he | he
  · exact h e he
  · rw [List.mem_singleton.1 he]; exact hx
theorem cartApart_walk {L : List HP} {A : Option Addr} {c : Nat} {l : List EventD} (name sku : ByteArray) (qty : Int) (hk : SlK L eventR A c l) (hl : l.length ≤ 1466015503658) (hn : name.size ≤ maxEl) (hs : sku.size ≤ maxEl) : Fn Try.prog 3 #[.slice A l.length c, .string name, .string sku, .int .i64 qty] L (fun v L' => v = .bool true ∧ L' = L) := by
  refine Fn_enter Try.func3 rfl rfl rfl rfl ?_
  refine T_gives hk.lay ?_
  refine T_gives (slnil (R := intR .i64) (A := none) (c := 0)).lay ?_
  refine T_region ?_
  refine TL_y rfl rfl (Y_assign rfl) ?_
  refine TL_nil ?_
  refine T_seq ?_
  refine T_region ?_
  refine TL_call rfl rfl (lives11_spec _) ?_
  rintro _ _ ⟨rfl, rfl⟩
  refine TL_y rfl rfl (Y_not rfl) ?_
  refine TL_name 12 (v' := .bool false) rfl (rfl) ?_
  refine TL_nil ?_
  refine T_cond_false rfl ?_
  refine T_skip ?_
  refine thenS_normal ?_
  refine T_seq ?_
  refine Classical.byCases (p := RightC l) (fun hR => ?_) (fun hR => ?_)
  · refine T_region ?_
    refine TL_y rfl rfl (Y_move rfl) ?_
    refine TL_call rfl rfl (right11_spec slk) ?_
    rintro _ _ ⟨⟨r, rfl, hr⟩, rfl⟩
    obtain rfl := hr.2 hR
    refine TL_y rfl rfl (Y_not rfl) ?_
    refine TL_name 15 (v' := .bool false) rfl (rfl) ?_
    refine TL_y rfl rfl (Y_move rfl) ?_
    refine TL_both 7 23 (qty < 1 ∨ 1000 < qty) ?_ ?_
    · refine TL_grun rfl rfl ?_
      refine TL_y rfl rfl (Y_move rfl) ?_
      refine TL_grun rfl rfl ?_
      refine TL_y rfl rfl (Y_lt rfl rfl) ?_
      refine TL_y rfl rfl (Y_pick_f rfl rfl) ?_
      refine TL_y rfl rfl (Y_move rfl) ?_
      refine TL_splitd 20 rfl (fun h20 => ?_) (fun h20 => ?_)
      · refine TL_gskip rfl rfl rfl rfl ?_
        refine TL_gskip rfl rfl rfl rfl ?_
        refine TL_y rfl rfl (Y_pick_t rfl rfl) ?_
        refine TL_chain_end rfl ?_ (by repeat (first | exact sub_refl | refine sub_ext rfl ?_)) GivesTo.g
        exact congrArg Value.bool (decide_eq_true (by omega)).symm
      · refine TL_grun rfl rfl ?_
        refine TL_y rfl rfl (Y_move rfl) ?_
        refine TL_grun rfl rfl ?_
        refine TL_y rfl rfl (Y_gt rfl rfl) ?_
        refine TL_y rfl rfl (Y_pick_f rfl rfl) ?_
        refine TL_chain_end rfl ?_ (by repeat (first | exact sub_refl | refine sub_ext rfl ?_)) GivesTo.g
        exact congrArg Value.bool (decide_eq_decide.2 (by omega))
    refine TL_nil ?_
    refine T_if rfl (fun h23 => ?_) (fun h23 => ?_)
    · refine T_region ?_
      refine TL_y rfl rfl (Y_assign rfl) ?_
      refine TL_nil ?_
      refine T_ret ?_
      refine thenS_ret ?_
      exact RetG_1 (.inl rfl) rfl (ResV.tmp rfl) GivesTo.g (⟨rfl, rfl⟩)
    · refine T_skip ?_
      refine thenS_normal ?_
      refine T_seq ?_
      refine T_region ?_
      refine TL_y rfl rfl (Y_assign rfl) ?_
      refine TL_nil ?_
      refine T_block ?_
      refine T_loopK (σ := Nat) [0, 1, 2, 3] (fun i => i ≤ l.length ∧ ∀ e ∈ l.take i, e.dot.1 ≠ 6 ∧ ¬ 0 < ofV e.deps 6) (fun i kv => (9, .int .i64 (i : Int)) :: kv) (fun i => sl (intR .i64) none 0 [] :: sl eventR A c l :: L) (fun i => l.length - i) (0) rfl (⟨Nat.zero_le _, by simp⟩) (GivesTo.g) (sub_cons rfl (sub_cons rfl (sub_cons rfl (sub_cons rfl (sub_cons rfl (sub_nil)))))) ?_
      intro i hi
      refine T_seq ?_
      refine T_region ?_
      refine TL_y rfl rfl (Y_move rfl) ?_
      refine TL_y rfl rfl (Y_move rfl) ?_
      refine TL_y rfl rfl (Y_len rfl) ?_
      refine TL_y rfl rfl (Y_lt rfl rfl) ?_
      refine TL_nil ?_
      refine T_if rfl (fun h27 => ?_) (fun h27 => ?_)
      · refine T_skip ?_
        refine thenS_normal ?_
        refine T_seq ?_
        refine T_block ?_
        obtain ⟨x, hx⟩ : ∃ x, l[i]? = some x := ⟨_, List.getElem?_eq_getElem (by omega)⟩
        refine T_region ?_
        refine TL_y rfl rfl (Y_move rfl) ?_
        refine TL_y rfl rfl (Y_move rfl) ?_
        refine TL_index_n rfl rfl rfl (rfl) ((sln (A := A) (c := c))) (hx) ?_
        intro bn32 on32 hA32 hk32
        have hu32 := hx
        refine TL_y rfl rfl (Y_field_addr2 rfl) ?_
        refine TL_y rfl rfl (Y_field_addr2 rfl) ?_
        refine TL_y rfl rfl (Y_load_nx rfl hk32 hu32 (fun _ => rfl)) ?_
        refine TL_y rfl rfl (Y_eq rfl rfl) ?_
        refine TL_y rfl rfl (Y_move rfl) ?_
        refine TL_splitd 37 rfl (fun h37 => ?_) (fun h37 => ?_)
        · refine TL_gskip rfl rfl rfl rfl ?_
          refine TL_gskip rfl rfl rfl rfl ?_
          refine TL_gskip rfl rfl rfl rfl ?_
          refine TL_gskip rfl rfl rfl rfl ?_
          refine TL_gskip rfl rfl rfl rfl ?_
          refine TL_gskip rfl rfl rfl rfl ?_
          refine TL_gskip rfl rfl rfl rfl ?_
          refine TL_y rfl rfl (Y_pick_t rfl rfl) ?_
          refine TL_nil ?_
          refine T_cond_true rfl ?_
          refine T_region ?_
          refine TL_y rfl rfl (Y_assign rfl) ?_
          refine TL_nil ?_
          refine T_ret ?_
          refine inB_ret ?_
          refine thenS_ret ?_
          refine thenS_ret ?_
          refine inB_ret ?_
          refine thenS_ret ?_
          exact RetG_1 (.inl rfl) rfl (ResV.tmp rfl) GivesTo.g (⟨rfl, rfl⟩)
        · refine TL_grun rfl rfl ?_
          refine TL_y rfl rfl (Y_move rfl) ?_
          refine TL_grun rfl rfl ?_
          refine TL_y rfl rfl (Y_move rfl) ?_
          refine TL_grun rfl rfl ?_
          refine TL_index_n rfl rfl rfl (rfl) ((sln (A := A) (c := c))) (hx) ?_
          intro bn40 on40 hA40 hk40
          have hu40 := hx
          refine TL_grun rfl rfl ?_
          refine TL_y rfl rfl (Y_field_addr2 rfl) ?_
          refine TL_grun rfl rfl ?_
          refine TL_load_nx1 rfl rfl hk40 hu40 (fun _ => rfl) ?_
          intro p42 ok42
          simp only [List.cons_append, List.nil_append]
          refine TL_grun rfl rfl ?_
          refine TL_call rfl rfl (vvOf_spec (SlK.n slk) 6) ?_
          rintro _ _ ⟨rfl, rfl⟩
          refine TL_grun rfl rfl ?_
          refine TL_y rfl rfl (Y_gt rfl rfl) ?_
          refine TL_y rfl rfl (Y_pick_f rfl rfl) ?_
          refine TL_nil ?_
          refine T_if rfl (fun h45 => ?_) (fun h45 => ?_)
          · refine T_region ?_
            refine TL_y rfl rfl (Y_assign rfl) ?_
            refine TL_nil ?_
            refine T_ret ?_
            refine inB_ret ?_
            refine thenS_ret ?_
            refine thenS_ret ?_
            refine inB_ret ?_
            refine thenS_ret ?_
            exact RetG_1 (.inl rfl) rfl (ResV.tmp rfl) GivesTo.g (⟨rfl, rfl⟩)
          · refine T_skip ?_
            refine inB_normal ?_
            refine thenS_normal ?_
            refine T_region_last ?_
            refine TL_y rfl rfl (Y_move rfl) ?_
            refine TL_name 28 (v' := .int .i64 (i : Int)) rfl (rfl) ?_
            refine TL_y rfl rfl (Y_add rfl rfl (by omega)) ?_
            refine TL_name 29 (v' := .int .i64 ((i + 1 : Nat) : Int)) rfl (rfl) ?_
            refine TL_y rfl rfl (Y_assign rfl) ?_
            refine TL_nil ?_
            refine thenS_normal ?_
            exact ⟨i + 1, ⟨by omega, by rw [takeAt hx]; intro q hq; rcases List.mem_append.1 hq with h | h; exact hi.2 q h; (rw [List.mem_singleton.1 h]; exact ⟨h37, h45⟩)⟩, by omega, holds_to (sub_cons rfl (sub_cons rfl (sub_cons rfl (sub_cons rfl (sub_cons rfl (sub_nil)))))) GivesTo.g⟩
      · refine T_exit ?_
        refine thenS_exit ?_
        refine thenS_exit ?_
        refine inB_hit ?_
        refine thenS_normal ?_
        refine T_region ?_
        refine TL_y rfl rfl (Y_build rfl rfl) ?_
        refine TL_y rfl rfl (Y_move rfl) ?_
        refine TL_y rfl rfl (Y_move rfl) ?_
        refine TL_y rfl rfl (Y_move rfl) ?_
        refine TL_y rfl rfl (Y_build rfl rfl) ?_
        refine TL_alloc rfl rfl ?_
        intro b10
        refine TL_store rfl rfl rfl rfl rfl rfl ?_
        refine TL_nil ?_
        have hall := hi.2
        rw [List.take_of_length_le (show l.length ≤ i by omega)] at hall
        have hap := ap_line hR (name := name) (sku := sku) (qty := qty) (by omega) hall
        have hqs := qty_snoc (x := apE name sku qty) hR.qty (by simp only; omega)
        have hlb := lineF_bound hR.qty name sku
        refine T_rd [0, 0, 3, 0, 8, 31, 0, 127, 0, 511, 0, 0, 4095, 0, 16383, 0, 65535, 131071, 262143] (by kernel_rfl) (by decide +kernel) ?_
        refine RD_pair 0 4 (by decide) ?_ ?_
        · refine RD_pair 2 4 (by decide) ?_ ?_
          · refine RD_leaf (cells b10 (eventC (apE name sku qty) (none, 0)) 29 :: []) [0, 0, 3, 0, 15, 31, 0, 127, 0, 511, 0, 0, 4095, 0, 16383, 0, 65535, 131071, 262143] [] [(1, true), (3, true), (6, true), (8, true), (10, true), (11, true), (13, true), (15, true), (0, false), (2, false), (4, false), (5, false), (7, false), (9, false), (12, false), (14, false), (16, true), (17, true), (18, true)] (by decide +kernel) GivesTo.g ?_
            refine TF_y rfl rfl (Y_move rfl) ?_
            refine TF_y rfl rfl (Y_load_agg rfl rfl) ?_
            refine TF_y rfl rfl (Y_move rfl) ?_
            refine TF_y rfl rfl (Y_move rfl) ?_
            refine TF_y rfl rfl (Y_move rfl) ?_
            refine TF_y rfl rfl (Y_move rfl) ?_
            refine TF_y rfl rfl (Y_move rfl) ?_
            refine TF_y rfl rfl (Y_move rfl) ?_
            refine TF_anchor rfl ?_
            refine TL_build_slice rfl rfl rfl rfl rfl rfl ?_
            intro b51
            refine TL_osl (k := 0) eventR [] (Knows.const fun M => rfl) rfl (by simp) ?_
            refine TL_name 51 (v' := .slice (some ⟨b51, 0, none⟩) ([] : List EventD).length 0) rfl rfl ?_
            refine TF_end GivesTo.g ?_
            refine TF_anchor rfl ?_
            refine TL_append rfl rfl rfl rfl rfl slk (by simp only [List.length_nil]; omega) ?_
            intro A53 c53
            simp only [List.nil_append]
            refine TF_end GivesTo.g ?_
            refine TF_anchor rfl ?_
            refine TL_build_slice rfl rfl rfl rfl rfl rfl ?_
            intro b55
            refine TL_osl (k := 1) eventR [apE name sku qty] (cells_one' (ex_rep ((none : Option Addr), (0 : Nat)) (sep_sl slk) ⟨i64In_mk (by simp only; omega), i64In_mk (by simp only; omega), by simp, hn, i64In_mk (by simp only; omega), hs, i64In_mk (by simp only; omega)⟩)) rfl (by decide) ?_
            refine TL_freeze_osl ?_
            refine TL_name 55 (v' := .slice (some ⟨b55, 0, none⟩) [apE name sku qty].length 1) rfl rfl ?_
            refine TF_end GivesTo.g ?_
            refine TF_anchor rfl ?_
            refine TL_append rfl rfl rfl rfl rfl slk (by simp only [List.length_cons, List.length_nil]; omega) ?_
            intro A56 c56
            refine TL_freeze_osl ?_
            refine TF_end GivesTo.g ?_
            refine TF_anchor rfl ?_
            refine TL_call rfl rfl (lines_spec name slk (by simp only [List.length_append, List.length_cons, List.length_nil]; omega) hqs) ?_
            rintro _ _ ⟨A58, c58, xs58, rfl, rfl, hx58, hl58⟩
            refine TF_end GivesTo.g ?_
            refine TF_anchor rfl ?_
            refine TL_call rfl rfl (of11_spec sku sln) ?_
            rintro _ _ ⟨rfl, rfl⟩
            refine TL_name 60 (v' := .int .i64 (lineF l name sku + qty)) rfl (by rw [hx58.of hqs, hap]) ?_
            refine TF_end GivesTo.g ?_
            refine TF_anchor rfl ?_
            refine TL_call rfl rfl (lines_spec name slk (by omega) hR.qty) ?_
            rintro _ _ ⟨A63, c63, xs63, rfl, rfl, hx63, hl63⟩
            refine TF_end GivesTo.g ?_
            refine TF_anchor rfl ?_
            refine TL_call rfl rfl (of11_spec sku sln) ?_
            rintro _ _ ⟨rfl, rfl⟩
            refine TL_name 65 (v' := .int .i64 (lineF l name sku)) rfl (by rw [hx63.of hR.qty]) ?_
            refine TF_end GivesTo.g ?_
            refine TF_y rfl rfl (Y_add rfl rfl (by omega)) ?_
            refine TF_y rfl rfl (Y_eq rfl rfl) ?_
            refine TF_name 68 (v' := .bool true) rfl (congrArg Value.bool (decide_eq_true rfl)) ?_
            refine TF_y rfl rfl (Y_assign rfl) ?_
            refine TF_nil ?_
            refine thenS_normal ?_
            refine T_ret ?_
            exact RetG_1 (.inl rfl) rfl (ResV.tmp rfl) GivesTo.g (⟨rfl, rfl⟩)
          · refine RD_leaf (cells b10 (eventC (apE name sku qty) (none, 0)) 29 :: []) [0, 0, 27, 0, 9, 31, 0, 127, 0, 511, 0, 0, 4095, 0, 16383, 0, 65535, 131071, 262143] [] [(1, true), (3, true), (6, true), (8, true), (10, true), (11, true), (13, true), (15, true), (0, false), (4, false), (2, false), (5, false), (7, false), (9, false), (12, false), (14, false), (16, true), (17, true), (18, true)] (by decide +kernel) GivesTo.g ?_
            refine TF_y rfl rfl (Y_move rfl) ?_
            refine TF_y rfl rfl (Y_load_agg rfl rfl) ?_
            refine TF_y rfl rfl (Y_move rfl) ?_
            refine TF_y rfl rfl (Y_move rfl) ?_
            refine TF_y rfl rfl (Y_move rfl) ?_
            refine TF_y rfl rfl (Y_move rfl) ?_
            refine TF_y rfl rfl (Y_move rfl) ?_
            refine TF_y rfl rfl (Y_move rfl) ?_
            refine TF_anchor rfl ?_
            refine TL_build_slice rfl rfl rfl rfl rfl rfl ?_
            intro b51
            refine TL_osl (k := 0) eventR [] (Knows.const fun M => rfl) rfl (by simp) ?_
            refine TL_name 51 (v' := .slice (some ⟨b51, 0, none⟩) ([] : List EventD).length 0) rfl rfl ?_
            refine TF_end GivesTo.g ?_
            refine TF_anchor rfl ?_
            refine TL_build_slice rfl rfl rfl rfl rfl rfl ?_
            intro b55
            refine TL_osl (k := 1) eventR [apE name sku qty] (cells_one' (ex_rep ((none : Option Addr), (0 : Nat)) (sep_sl slk) ⟨i64In_mk (by simp only; omega), i64In_mk (by simp only; omega), by simp, hn, i64In_mk (by simp only; omega), hs, i64In_mk (by simp only; omega)⟩)) rfl (by decide) ?_
            refine TL_freeze_osl ?_
            refine TL_name 55 (v' := .slice (some ⟨b55, 0, none⟩) [apE name sku qty].length 1) rfl rfl ?_
            refine TF_end GivesTo.g ?_
            refine TF_anchor rfl ?_
            refine TL_append rfl rfl rfl rfl rfl slk (by simp only [List.length_nil]; omega) ?_
            intro A53 c53
            simp only [List.nil_append]
            refine TF_end GivesTo.g ?_
            refine TF_anchor rfl ?_
            refine TL_append rfl rfl rfl rfl rfl slk (by simp only [List.length_cons, List.length_nil]; omega) ?_
            intro A56 c56
            refine TL_freeze_osl ?_
            refine TF_end GivesTo.g ?_
            refine TF_anchor rfl ?_
            refine TL_call rfl rfl (lines_spec name slk (by simp only [List.length_append, List.length_cons, List.length_nil]; omega) hqs) ?_
            rintro _ _ ⟨A58, c58, xs58, rfl, rfl, hx58, hl58⟩
            refine TF_end GivesTo.g ?_
            refine TF_anchor rfl ?_
            refine TL_call rfl rfl (of11_spec sku sln) ?_
            rintro _ _ ⟨rfl, rfl⟩
            refine TL_name 60 (v' := .int .i64 (lineF l name sku + qty)) rfl (by rw [hx58.of hqs, hap]) ?_
            refine TF_end GivesTo.g ?_
            refine TF_anchor rfl ?_
            refine TL_call rfl rfl (lines_spec name slk (by omega) hR.qty) ?_
            rintro _ _ ⟨A63, c63, xs63, rfl, rfl, hx63, hl63⟩
            refine TF_end GivesTo.g ?_
            refine TF_anchor rfl ?_
            refine TL_call rfl rfl (of11_spec sku sln) ?_
            rintro _ _ ⟨rfl, rfl⟩
            refine TL_name 65 (v' := .int .i64 (lineF l name sku)) rfl (by rw [hx63.of hR.qty]) ?_
            refine TF_end GivesTo.g ?_
            refine TF_y rfl rfl (Y_add rfl rfl (by omega)) ?_
            refine TF_y rfl rfl (Y_eq rfl rfl) ?_
            refine TF_name 68 (v' := .bool true) rfl (congrArg Value.bool (decide_eq_true rfl)) ?_
            refine TF_y rfl rfl (Y_assign rfl) ?_
            refine TF_nil ?_
            refine thenS_normal ?_
            refine T_ret ?_
            exact RetG_1 (.inl rfl) rfl (ResV.tmp rfl) GivesTo.g (⟨rfl, rfl⟩)
        · refine RD_leaf (cells b10 (eventC (apE name sku qty) (none, 0)) 29 :: []) [24, 0, 27, 0, 8, 31, 0, 127, 0, 511, 0, 0, 4095, 0, 16383, 0, 65535, 131071, 262143] [] [(1, true), (3, true), (6, true), (8, true), (10, true), (11, true), (13, true), (15, true), (4, false), (0, false), (2, false), (5, false), (7, false), (9, false), (12, false), (14, false), (16, true), (17, true), (18, true)] (by decide +kernel) GivesTo.g ?_
          refine TF_y rfl rfl (Y_move rfl) ?_
          refine TF_y rfl rfl (Y_load_agg rfl rfl) ?_
          refine TF_y rfl rfl (Y_move rfl) ?_
          refine TF_y rfl rfl (Y_move rfl) ?_
          refine TF_y rfl rfl (Y_move rfl) ?_
          refine TF_y rfl rfl (Y_move rfl) ?_
          refine TF_y rfl rfl (Y_move rfl) ?_
          refine TF_y rfl rfl (Y_move rfl) ?_
          refine TF_anchor rfl ?_
          refine TL_build_slice rfl rfl rfl rfl rfl rfl ?_
          intro b55
          refine TL_osl (k := 1) eventR [apE name sku qty] (cells_one' (ex_rep ((none : Option Addr), (0 : Nat)) (sep_sl slk) ⟨i64In_mk (by simp only; omega), i64In_mk (by simp only; omega), by simp, hn, i64In_mk (by simp only; omega), hs, i64In_mk (by simp only; omega)⟩)) rfl (by decide) ?_
          refine TL_freeze_osl ?_
          refine TL_name 55 (v' := .slice (some ⟨b55, 0, none⟩) [apE name sku qty].length 1) rfl rfl ?_
          refine TF_end GivesTo.g ?_
          refine TF_anchor rfl ?_
          refine TL_build_slice rfl rfl rfl rfl rfl rfl ?_
          intro b51
          refine TL_osl (k := 0) eventR [] (Knows.const fun M => rfl) rfl (by simp) ?_
          refine TL_name 51 (v' := .slice (some ⟨b51, 0, none⟩) ([] : List EventD).length 0) rfl rfl ?_
          refine TF_end GivesTo.g ?_
          refine TF_anchor rfl ?_
          refine TL_append rfl rfl rfl rfl rfl slk (by simp only [List.length_nil]; omega) ?_
          intro A53 c53
          simp only [List.nil_append]
          refine TF_end GivesTo.g ?_
          refine TF_anchor rfl ?_
          refine TL_append rfl rfl rfl rfl rfl slk (by simp only [List.length_cons, List.length_nil]; omega) ?_
          intro A56 c56
          refine TL_freeze_osl ?_
          refine TF_end GivesTo.g ?_
          refine TF_anchor rfl ?_
          refine TL_call rfl rfl (lines_spec name slk (by simp only [List.length_append, List.length_cons, List.length_nil]; omega) hqs) ?_
          rintro _ _ ⟨A58, c58, xs58, rfl, rfl, hx58, hl58⟩
          refine TF_end GivesTo.g ?_
          refine TF_anchor rfl ?_
          refine TL_call rfl rfl (of11_spec sku sln) ?_
          rintro _ _ ⟨rfl, rfl⟩
          refine TL_name 60 (v' := .int .i64 (lineF l name sku + qty)) rfl (by rw [hx58.of hqs, hap]) ?_
          refine TF_end GivesTo.g ?_
          refine TF_anchor rfl ?_
          refine TL_call rfl rfl (lines_spec name slk (by omega) hR.qty) ?_
          rintro _ _ ⟨A63, c63, xs63, rfl, rfl, hx63, hl63⟩
          refine TF_end GivesTo.g ?_
          refine TF_anchor rfl ?_
          refine TL_call rfl rfl (of11_spec sku sln) ?_
          rintro _ _ ⟨rfl, rfl⟩
          refine TL_name 65 (v' := .int .i64 (lineF l name sku)) rfl (by rw [hx63.of hR.qty]) ?_
          refine TF_end GivesTo.g ?_
          refine TF_y rfl rfl (Y_add rfl rfl (by omega)) ?_
          refine TF_y rfl rfl (Y_eq rfl rfl) ?_
          refine TF_name 68 (v' := .bool true) rfl (congrArg Value.bool (decide_eq_true rfl)) ?_
          refine TF_y rfl rfl (Y_assign rfl) ?_
          refine TF_nil ?_
          refine thenS_normal ?_
          refine T_ret ?_
          exact RetG_1 (.inl rfl) rfl (ResV.tmp rfl) GivesTo.g (⟨rfl, rfl⟩)
  · refine T_region ?_
    refine TL_y rfl rfl (Y_move rfl) ?_
    refine TL_call rfl rfl (right11_spec slk) ?_
    rintro _ _ ⟨⟨r, rfl, hr⟩, rfl⟩
    obtain rfl : r = false := by cases r; rfl; exact absurd (hr.1 rfl) hR
    refine TL_y rfl rfl (Y_not rfl) ?_
    refine TL_name 15 (v' := .bool true) rfl (rfl) ?_
    refine TL_y rfl rfl (Y_move rfl) ?_
    refine TL_gskip rfl rfl rfl rfl ?_
    refine TL_gskip rfl rfl rfl rfl ?_
    refine TL_y rfl rfl (Y_pick_t rfl rfl) ?_
    refine TL_y rfl rfl (Y_move rfl) ?_
    refine TL_gskip rfl rfl rfl rfl ?_
    refine TL_gskip rfl rfl rfl rfl ?_
    refine TL_y rfl rfl (Y_pick_t rfl rfl) ?_
    refine TL_nil ?_
    refine T_cond_true rfl ?_
    refine T_region ?_
    refine TL_y rfl rfl (Y_assign rfl) ?_
    refine TL_nil ?_
    refine T_ret ?_
    refine thenS_ret ?_
    exact RetG_1 (.inl rfl) rfl (ResV.tmp rfl) GivesTo.g (⟨rfl, rfl⟩)
end Go.SL
set_option linter.unusedVariables false
namespace Go.SL
open Go Go.Proofs
theorem cells_i : Try.prog.cellsOf 3 = 1 := by kernel_rfl
theorem cells_b : Try.prog.cellsOf 4 = 1 := by kernel_rfl
theorem cells_s : Try.prog.cellsOf 9 = 1 := by kernel_rfl
theorem cells_li : Try.prog.cellsOf 27 = 1 := by kernel_rfl
theorem cells_seal : Try.prog.cellsOf 53 = 4 := by kernel_rfl
theorem bytes_i : Try.prog.bytesOf 3 = 8 := by kernel_rfl
theorem sl_to {α : Type} {R : Rep α} {A : Option Addr} {c : Nat} {xs : List α} {M : Mem} (k : sliceAt M R A c xs) : Sep [sl R A c xs] M Mem.emp := ⟨Mem.emp, Mem.emp, Mem.emp_disj _, Mem.le_refl _, Mem.le_refl _, k, trivial⟩
theorem reads_ints : Reads Try.prog 27 (sliceR (intR .i64)) (fun xs => xs.length * 8 ≤ 140737488351232) (fun xs => xs.length + 1) := fun H enc W held fuel cs d ps h hw => by
  obtain ⟨xs, h1, h2, h3⟩ := reads_slice Try.underlying27 (R := intR .i64) (by kernel_rfl) (by decide) (by rw [bytes_i]; decide) (reads_int Try.underlying3) H enc W held fuel cs d ps h hw
  rw [bytes_i] at h2
  refine ⟨xs, h1, h2.1, fun B => Nat.le_trans ?_ (h3 B)⟩
  have q : xs.length ≤ (xs.map fun _ : Int => 1).sum := sum_ge (μ := fun _ : Int => 1) (fun _ => Nat.le_refl _) xs
  exact Nat.succ_le_succ q
def μSeal (x : OrderD) : Nat := x.token.size + x.cart.size + x.cut.length + 5
set_option maxRecDepth 100000 in
theorem reads_seal : Reads Try.prog 53 orderR (fun _ => True) μSeal := fun H enc W held fuel cs d ps h hw => by
  obtain ⟨ds, n, rfl, hl, hdl, hf⟩ := reads_fields Try.underlying53 h hw
  rw [cells_seal] at hl
  match cs, hl with
  | [u0, u1, u2, u3], _ =>
  obtain ⟨d0, p0, g0, h0, w0⟩ := hf 0 _ rfl
  obtain ⟨d1, p1, g1, h1, w1⟩ := hf 1 _ rfl
  obtain ⟨d2, p2, g2, h2, w2⟩ := hf 2 _ rfl
  obtain ⟨d3, p3, g3, h3, w3⟩ := hf 3 _ rfl
  obtain ⟨x0, ⟨e0, i0⟩, _, m0⟩ := reads_str Try.underlying9 H enc W held n _ d0 p0 h0 w0
  obtain ⟨x1, ⟨e1, i1⟩, _, m1⟩ := reads_str Try.underlying9 H enc W held n _ d1 p1 h1 w1
  obtain ⟨x2, ⟨e2, i2⟩, _, m2⟩ := reads_int Try.underlying3 H enc W held n _ d2 p2 h2 w2
  obtain ⟨x3, ⟨A, c, e3, i3⟩, k3, m3⟩ := reads_ints H enc W held n _ d3 p3 h3 w3
  simp [cells_s] at e0 e1
  simp [cells_i] at e2
  simp [cells_li] at e3
  subst e0; subst e1; subst e2; subst e3
  refine ⟨⟨x0, x1, x2, x3⟩, ⟨(A, c), rfl, sl_to i3, i0, i1, i2, by show x3.length ≤ _; omega⟩, trivial, fun B => ?_⟩
  refine Nat.le_trans ?_ (B.agg ds)
  match ds, hdl with
  | [a0, a1, a2, a3], _ =>
  simp at g0 g1 g2 g3
  subst g0; subst g1; subst g2; subst g3
  have q0 : x0.size + 1 ≤ B.f a0 := m0 B
  have q1 : x1.size + 1 ≤ B.f a1 := m1 B
  have q2 : 1 ≤ B.f a2 := m2 B
  have q3 : x3.length + 1 ≤ B.f a3 := m3 B
  simp only [List.map_cons, List.map_nil, List.sum_cons, List.sum_nil]
  show x0.size + x1.size + x3.length + 5 ≤ _
  omega
def μEntry (e : EntryD) : Nat := μSeal e.order + 2
end Go.SL
set_option linter.unusedVariables false
namespace Go.SL
open Go Go.Proofs
def pairR : Rep (Int × Int) := ⟨2, fun _ a cs => cs = [.int .i64 a.1, .int .i64 a.2] ∧ intIn .i64 a.1 ∧ intIn .i64 a.2, fun _ h => h, fun h => by rw [h.1]; rfl, fun h v hv => by rw [h.1] at hv; simp at hv; rcases hv with rfl | rfl <;> rfl⟩
theorem cells_dot : Try.prog.cellsOf 26 = 2 := by kernel_rfl
set_option maxRecDepth 100000 in
theorem reads_dot : Reads Try.prog 26 pairR (fun _ => True) (fun _ => 1) := fun H enc W held fuel cs d ps h hw => by
  obtain ⟨ds, n, rfl, hl, _, hf⟩ := reads_fields Try.underlying26 h hw
  rw [cells_dot] at hl
  match cs, hl with
  | [u, v], _ =>
  obtain ⟨d0, p0, _, h0, w0⟩ := hf 0 _ rfl
  obtain ⟨d1, p1, _, h1, w1⟩ := hf 1 _ rfl
  obtain ⟨x, ⟨e0, i0⟩, _⟩ := reads_int Try.underlying3 H enc W held n _ d0 p0 h0 w0
  obtain ⟨y, ⟨e1, i1⟩, _⟩ := reads_int Try.underlying3 H enc W held n _ d1 p1 h1 w1
  simp [cells_i] at e0 e1
  subst e0; subst e1
  exact ⟨(x, y), ⟨rfl, i0, i1⟩, trivial, fun B => B.one _⟩
def μEvent (e : EventD) : Nat := e.deps.length + e.cart.size + e.sku.size + 8
def μVoted (v : VotedD) : Nat := μEntry v.en + 3
def μMsg (m : MsgD) : Nat := μEntry m.en + (m.voted.map μVoted).sum + m.seen.length + (m.events.map μEvent).sum + 10
theorem cells_event : Try.prog.cellsOf 29 = 8 := by kernel_rfl
set_option maxRecDepth 100000 in
theorem reads_event : Reads Try.prog 29 eventR (fun _ => True) μEvent := fun H enc W held fuel cs d ps h hw => by
  obtain ⟨ds, n, rfl, hl, hdl, hf⟩ := reads_fields Try.underlying29 h hw
  rw [cells_event] at hl
  match cs, hl with
  | [u0, u1, u2, u3, u4, u5, u6, u7], _ =>
  obtain ⟨d0, p0, g0, h0, w0⟩ := hf 0 _ rfl
  obtain ⟨d1, p1, g1, h1, w1⟩ := hf 1 _ rfl
  obtain ⟨d2, p2, g2, h2, w2⟩ := hf 2 _ rfl
  obtain ⟨d3, p3, g3, h3, w3⟩ := hf 3 _ rfl
  obtain ⟨d4, p4, g4, h4, w4⟩ := hf 4 _ rfl
  obtain ⟨d5, p5, g5, h5, w5⟩ := hf 5 _ rfl
  obtain ⟨d6, p6, g6, h6, w6⟩ := hf 6 _ rfl
  obtain ⟨x0, ⟨e0, i0, j0⟩, _, m0⟩ := reads_dot H enc W held n _ d0 p0 h0 w0
  obtain ⟨x1, ⟨A1, c1, e1, i1⟩, k1, m1⟩ := reads_ints H enc W held n _ d1 p1 h1 w1
  obtain ⟨x2, ⟨e2, i2⟩, _, m2⟩ := reads_str Try.underlying9 H enc W held n _ d2 p2 h2 w2
  obtain ⟨x3, ⟨e3, i3⟩, _, m3⟩ := reads_int Try.underlying3 H enc W held n _ d3 p3 h3 w3
  obtain ⟨x4, ⟨e4, i4⟩, _, m4⟩ := reads_str Try.underlying9 H enc W held n _ d4 p4 h4 w4
  obtain ⟨x5, ⟨e5, i5⟩, _, m5⟩ := reads_int Try.underlying3 H enc W held n _ d5 p5 h5 w5
  obtain ⟨x6, e6, _, m6⟩ := reads_bool Try.underlying4 H enc W held n _ d6 p6 h6 w6
  simp [cells_dot] at e0
  obtain ⟨rfl, rfl⟩ := e0
  simp [cells_li] at e1
  subst e1
  simp [cells_s] at e2
  subst e2
  simp [cells_i] at e3
  subst e3
  simp [cells_s] at e4
  subst e4
  simp [cells_i] at e5
  subst e5
  simp [cells_b, boolR] at e6
  subst e6
  refine ⟨⟨x0, x1, x2, x3, x4, x5, x6⟩, ⟨(A1, c1), rfl, sl_to i1, i0, j0, by show x1.length ≤ _; omega, i2, i3, i4, i5⟩, trivial, fun B => ?_⟩
  refine Nat.le_trans ?_ (B.agg ds)
  match ds, hdl with
  | [a0, a1, a2, a3, a4, a5, a6], _ =>
  simp at g0 g1 g2 g3 g4 g5 g6
  subst g0
  subst g1
  subst g2
  subst g3
  subst g4
  subst g5
  subst g6
  have q0' : 1 ≤ B.f a0 := m0 B
  have q1' : x1.length + 1 ≤ B.f a1 := m1 B
  have q2' : x2.size + 1 ≤ B.f a2 := m2 B
  have q3' : 1 ≤ B.f a3 := m3 B
  have q4' : x4.size + 1 ≤ B.f a4 := m4 B
  have q5' : 1 ≤ B.f a5 := m5 B
  have q6' : 1 ≤ B.f a6 := m6 B
  simp only [List.map_cons, List.map_nil, List.sum_cons, List.sum_nil]
  show x1.length + x2.size + x4.size + 8 ≤ _
  omega
def msgR : Rep MsgD := exR 15 msgC (fun m p => [sl (intR .i64) p.cut.1 p.cut.2 m.en.order.cut, sl votedR p.voted.1 p.voted.2 m.voted, sl (intR .i64) p.seen.1 p.seen.2 m.seen, sl eventR p.events.1 p.events.2 m.events]) MsgOk (fun _ _ => rfl) (fun _ _ => rfl)
end Go.SL
set_option linter.unusedVariables false
set_option linter.unusedSimpArgs false
namespace Go.SL
open Go Go.Proofs
abbrev knX (name sku : ByteArray) (a : Int) : EventD := ⟨(0, 1), [], name, 0, sku, a, true⟩
abbrev knY (name sku : ByteArray) (b : Int) (dp : List Int) : EventD := ⟨(1, 1), dp, name, 0, sku, b, true⟩
end Go.SL
set_option linter.unusedVariables false
set_option linter.unusedSimpArgs false
namespace Go.SL
open Go Go.Proofs
def wCut (bb : Nat) (V : Option Addr) (cv : Nat) (v : List Int) : HP := unS [cells bb [.slice V v.length cv] 27, sl (intR .i64) V cv v]
theorem cut1_spec {L : List HP} {bb cv : Nat} {V : Option Addr} {v : List Int} (e : EventD) (q : Option Addr × Nat) (ho : eventOk e) : Fn Try.prog 42 #[evV e q, .pointer (some ⟨bb, 0, none⟩)] (wCut bb V cv v :: L) (fun r L' => r = .bool (decide (hasV v e.dot)) ∧ L' = wCut bb V cv v :: L) := by
  refine Fn_enter Try.func42 rfl rfl rfl rfl ?_
  refine T_gives (show Gives _ (cells bb [.slice V v.length cv] 27 :: sl (intR .i64) V cv v :: L) from unS_open) ?_
  refine T_region ?_
  refine TL_box rfl rfl rfl ?_
  intro b2
  refine TL_y rfl rfl (Y_assign rfl) ?_
  refine TL_nil ?_
  refine T_region ?_
  refine TL_y rfl rfl (Y_load rfl rfl) ?_
  refine TL_y rfl rfl (Y_field_addr rfl) ?_
  refine TL_y rfl rfl (Y_load_agg rfl rfl) ?_
  refine TL_call rfl rfl (vvHas_spec (SlK.n slk) e.dot) ?_
  rintro _ _ ⟨rfl, rfl⟩
  refine TL_y rfl rfl (Y_assign rfl) ?_
  refine TL_nil ?_
  refine T_ret ?_
  refine RetQ.gives (show Gives _ (cells bb [.slice V v.length cv] 27 :: sl (intR .i64) V cv v :: L) from GivesTo.g) ?_
  refine RetQ.gives (show Gives _ (wCut bb V cv v :: L) from unS_close (L := [cells bb [.slice V v.length cv] 27, sl (intR .i64) V cv v])) ?_
  exact RetG_1 (.inl rfl) rfl (ResV.tmp rfl) GivesTo.g (⟨rfl, rfl⟩)
def cutC (l : List EventD) (v : List Int) : List EventD := l.filter fun e => decide (hasV v e.dot)
def leftC (l : List EventD) (v : List Int) : List EventD := l.filter fun e => !decide (hasV v e.dot)
theorem cut11_spec {L : List HP} {A V : Option Addr} {c cv : Nat} {l : List EventD} {v : List Int} (hk : SlK L eventR A c l) (hv : SlK L (intR .i64) V cv v) (hl : l.length ≤ 1466015503701) : Fn Try.prog 17 #[.slice A l.length c, .slice V v.length cv] L (fun r L' => ∃ A' c', r = .slice A' (cutC l v).length c' ∧ L' = osl eventR 29 A' c' (cutC l v) :: L) := by
  refine Fn_enter Try.func17 rfl rfl rfl rfl ?_
  refine T_gives hk.lay ?_
  refine T_gives (hv.tail).lay ?_
  refine T_region ?_
  refine TL_box rfl rfl rfl ?_
  intro b3
  refine TL_y rfl rfl (Y_assign rfl) ?_
  refine TL_nil ?_
  refine T_region ?_
  refine TL_y rfl rfl (Y_move rfl) ?_
  refine TL_y rfl rfl (Y_make_func rfl rfl) ?_
  refine TL_gives (show Gives _ (cells b3 [.slice V v.length cv] 27 :: sl (intR .i64) V cv v :: sl eventR A c l :: L) from GivesTo.g) ?_
  refine TL_gives (show Gives _ (wCut b3 V cv v :: sl eventR A c l :: L) from unS_close (L := [cells b3 [.slice V v.length cv] 27, sl (intR .i64) V cv v])) ?_
  refine TL_call rfl rfl (where_spec (σ := Unit) (fun _ ↦ wCut b3 V cv v) (fun _ e ↦ decide (hasV v e.dot)) (fun s _ ↦ s) 42 [.pointer (some ⟨b3, 0, none⟩)] () (fun s e q L1 _ ho hk1 ↦ cut1_spec e q ho) slk hl) ?_
  rintro _ _ ⟨A7, c7, rfl, rfl⟩
  rw [show (whr (fun (_ : Unit) e => decide (hasV v e.dot)) (fun s _ => s) () l).1 = cutC l v from whr_filter _ l]
  refine TL_y rfl rfl (Y_assign rfl) ?_
  refine TL_nil ?_
  refine T_ret ?_
  exact RetG_1 (.inl rfl) rfl (ResV.tmp rfl) GivesTo.g (⟨A7, c7, rfl, rfl⟩)
/-! ### Pieces -/
theorem goes_none {l : List EventD} (h : ∀ e ∈ l, e.clears = false) (e : EventD) : ¬ goesC l e := by
  rintro ⟨x, hx, h2, _⟩
  rw [h x hx] at h2; cases h2
theorem count_all {l : List EventD} (h : RightC l) (hc : ∀ e ∈ l, e.clears = false) {e : EventD} : e ∈ countC l ↔ e ∈ l := h.count.trans ⟨fun k => k.1, fun k => ⟨k, goes_none hc e⟩⟩
theorem pieces_perm {l : List EventD} (v : List Int) (h : RightC l) (hc : ∀ e ∈ l, e.clears = false) : (countC l).Perm (countC (cutC l v) ++ countC (leftC l v)) := by
  have h1 : RightC (cutC l v) := h.sub fun e he => (List.mem_filter.1 he).1
  have h2 : RightC (leftC l v) := h.sub fun e he => (List.mem_filter.1 he).1
  have c1 : ∀ e ∈ cutC l v, e.clears = false := fun e he => hc e (List.mem_filter.1 he).1
  have c2 : ∀ e ∈ leftC l v, e.clears = false := fun e he => hc e (List.mem_filter.1 he).1
  refine nodup_perm (countC_nodup l) ?_ fun e => ?_
  · rw [List.nodup_append]
    refine ⟨countC_nodup _, countC_nodup _, fun a ha b hb e => ?_⟩
    have k1 := (List.mem_filter.1 ((count_all h1 c1).1 ha)).2
    have k2 := (List.mem_filter.1 ((count_all h2 c2).1 hb)).2
    rw [e] at k1
    rw [k1] at k2; cases k2
  · rw [List.mem_append, count_all h hc, count_all h1 c1, count_all h2 c2]
    unfold cutC leftC
    rw [List.mem_filter, List.mem_filter]
    constructor
    · intro he
      cases hd : decide (hasV v e.dot) with
      | true => exact .inl ⟨he, rfl⟩
      | false => exact .inr ⟨he, rfl⟩
    · rintro (k | k) <;> exact k.1
theorem pieces_line {l : List EventD} (v : List Int) (h : RightC l) (hc : ∀ e ∈ l, e.clears = false) (cart sku : ByteArray) : lineF l cart sku = lineF (cutC l v) cart sku + lineF (leftC l v) cart sku := by
  rw [lineF_eq, sumC_perm ((pieces_perm v h hc).filter _), List.filter_append, sumC_app]; rfl
theorem pieces_tot {l : List EventD} (v : List Int) (h : RightC l) (hc : ∀ e ∈ l, e.clears = false) (cart : ByteArray) {xs ys zs : List LineD} (h1 : IsLines l cart xs) (h2 : IsLines (cutC l v) cart ys) (h3 : IsLines (leftC l v) cart zs) : totX xs = totX ys + totX zs := by
  unfold totX
  rw [h1.tot, h2.tot, h3.tot, sumC_perm ((pieces_perm v h hc).filter _), List.filter_append, sumC_app]
theorem IsLines.pos {l : List EventD} {cart : ByteArray} {xs : List LineD} (h : IsLines l cart xs) : ∀ p ∈ xs, 0 ≤ p.2 := fun p hp => by
  obtain ⟨k, q⟩ := p
  have := ((h.mem k q).1 hp).2
  simp only; omega
theorem IsLines.tot_le {l : List EventD} {cart : ByteArray} {xs : List LineD} (h : IsLines l cart xs) (hq : ∀ e ∈ l, 0 ≤ e.qty ∧ e.qty ≤ 1000) : totX xs ≤ 1000 * (l.length : Int) := by
  unfold totX
  rw [h.tot]
  have h1 := sumC_bound (l := (countC l).filter fun e => decide (e.cart = cart)) fun e he => hq e (mem_stand.1 (onceC_sub (List.mem_filter.1 he).1)).1
  have h2 : ((countC l).filter fun e => decide (e.cart = cart)).length ≤ l.length := Nat.le_trans (List.length_filter_le _ _) (countC_len l)
  omega
structure PcSt where
  k : Nat
  A : Option Addr
  c : Nat
theorem left_snoc {l : List EventD} {i : Nat} {e : EventD} (h : l[i]? = some e) (v : List Int) : leftC (l.take (i + 1)) v = leftC (l.take i) v ++ if hasV v e.dot then [] else [e] := by
  unfold leftC
  rw [takeAt h, List.filter_append, List.filter_cons]
  by_cases hd : hasV v e.dot <;> simp [hd]
theorem left_len (l : List EventD) (v : List Int) : (leftC l v).length ≤ l.length := List.length_filter_le _ _
theorem cut_len (l : List EventD) (v : List Int) : (cutC l v).length ≤ l.length := List.length_filter_le _ _
set_option maxHeartbeats 1000000 in
theorem cartPieces_walk {L : List HP} {A V : Option Addr} {c cv : Nat} {l : List EventD} {v : List Int} (name sku : ByteArray) (hk : SlK L eventR A c l) (hv : SlK L (intR .i64) V cv v) (hl : l.length ≤ 1466015503658) : Fn Try.prog 5 #[.slice A l.length c, .slice V v.length cv, .string name, .string sku] L (fun v L' => v = .bool true ∧ L' = L) := by
  refine Fn_enter Try.func5 rfl rfl rfl rfl ?_
  refine T_gives hk.lay ?_
  refine T_gives (hv.tail).lay ?_
  refine T_region ?_
  refine TL_y rfl rfl (Y_assign rfl) ?_
  refine TL_nil ?_
  refine T_seq ?_
  refine T_region ?_
  refine TL_call rfl rfl (lives11_spec _) ?_
  rintro _ _ ⟨rfl, rfl⟩
  refine TL_y rfl rfl (Y_not rfl) ?_
  refine TL_name 14 (v' := .bool false) rfl (rfl) ?_
  refine TL_nil ?_
  refine T_cond_false rfl ?_
  refine T_skip ?_
  refine thenS_normal ?_
  refine T_seq ?_
  refine Classical.byCases (p := RightC l) (fun hR => ?_) (fun hR => ?_)
  · refine T_region ?_
    refine TL_y rfl rfl (Y_move rfl) ?_
    refine TL_call rfl rfl (right11_spec slk) ?_
    rintro _ _ ⟨⟨r, rfl, hr⟩, rfl⟩
    obtain rfl := hr.2 hR
    refine TL_y rfl rfl (Y_not rfl) ?_
    refine TL_name 17 (v' := .bool false) rfl (rfl) ?_
    refine TL_nil ?_
    refine T_cond_false rfl ?_
    refine T_skip ?_
    refine thenS_normal ?_
    refine T_seq ?_
    refine T_region ?_
    refine TL_y rfl rfl (Y_assign rfl) ?_
    refine TL_nil ?_
    refine T_block ?_
    refine T_loopK (σ := Nat) [0, 1, 2, 3] (fun i => i ≤ l.length ∧ ∀ e ∈ l.take i, e.clears = false) (fun i kv => (9, .int .i64 (i : Int)) :: kv) (fun i => sl (intR .i64) V cv v :: sl eventR A c l :: L) (fun i => l.length - i) (0) rfl (⟨Nat.zero_le _, by simp⟩) (GivesTo.g) (sub_cons rfl (sub_cons rfl (sub_cons rfl (sub_cons rfl (sub_cons rfl (sub_nil)))))) ?_
    intro i hi
    refine T_seq ?_
    refine T_region ?_
    refine TL_y rfl rfl (Y_move rfl) ?_
    refine TL_y rfl rfl (Y_move rfl) ?_
    refine TL_y rfl rfl (Y_len rfl) ?_
    refine TL_y rfl rfl (Y_lt rfl rfl) ?_
    refine TL_nil ?_
    refine T_if rfl (fun h21 => ?_) (fun h21 => ?_)
    · refine T_skip ?_
      refine thenS_normal ?_
      refine T_seq ?_
      refine T_block ?_
      obtain ⟨x, hx⟩ : ∃ x, l[i]? = some x := ⟨_, List.getElem?_eq_getElem (by omega)⟩
      refine T_region ?_
      refine TL_y rfl rfl (Y_move rfl) ?_
      refine TL_y rfl rfl (Y_move rfl) ?_
      refine TL_index_n rfl rfl rfl (rfl) ((sln (A := A) (c := c))) (hx) ?_
      intro bn26 on26 hA26 hk26
      have hu26 := hx
      refine TL_y rfl rfl (Y_field_addr2 rfl) ?_
      refine TL_y rfl rfl (Y_load_nx rfl hk26 hu26 (fun _ => rfl)) ?_
      refine TL_nil ?_
      refine T_cond rfl (fun h28 => ?_) (fun h28 => ?_)
      · refine T_region ?_
        refine TL_y rfl rfl (Y_assign rfl) ?_
        refine TL_nil ?_
        refine T_ret ?_
        refine inB_ret ?_
        refine thenS_ret ?_
        refine thenS_ret ?_
        refine inB_ret ?_
        refine thenS_ret ?_
        exact RetG_1 (.inl rfl) rfl (ResV.tmp rfl) GivesTo.g (⟨rfl, rfl⟩)
      · refine T_skip ?_
        refine inB_normal ?_
        refine thenS_normal ?_
        refine T_region_last ?_
        refine TL_y rfl rfl (Y_move rfl) ?_
        refine TL_name 22 (v' := .int .i64 (i : Int)) rfl (rfl) ?_
        refine TL_y rfl rfl (Y_add rfl rfl (by omega)) ?_
        refine TL_name 23 (v' := .int .i64 ((i + 1 : Nat) : Int)) rfl (rfl) ?_
        refine TL_y rfl rfl (Y_assign rfl) ?_
        refine TL_nil ?_
        refine thenS_normal ?_
        exact ⟨i + 1, ⟨by omega, by rw [takeAt hx]; intro q hq; rcases List.mem_append.1 hq with h | h; exact hi.2 q h; (rw [List.mem_singleton.1 h]; simpa using h28)⟩, by omega, holds_to (sub_cons rfl (sub_cons rfl (sub_cons rfl (sub_cons rfl (sub_cons rfl (sub_nil)))))) GivesTo.g⟩
    · refine T_exit ?_
      refine thenS_exit ?_
      refine thenS_exit ?_
      refine inB_hit ?_
      refine thenS_normal ?_
      have hall := hi.2
      rw [List.take_of_length_le (show l.length ≤ i by omega)] at hall
      refine T_region ?_
      refine TL_y rfl rfl (Y_move rfl) ?_
      refine TL_y rfl rfl (Y_move rfl) ?_
      refine TL_call rfl rfl (cut11_spec slk slk (by omega)) ?_
      rintro _ _ ⟨A31, c31, rfl, rfl⟩
      refine TL_freeze_osl ?_
      refine TL_y rfl rfl (Y_assign rfl) ?_
      refine TL_nil ?_
      refine T_region ?_
      refine TL_y rfl rfl (Y_assign rfl) ?_
      refine TL_nil ?_
      refine T_seq ?_
      refine T_region ?_
      refine TL_y rfl rfl (Y_assign rfl) ?_
      refine TL_nil ?_
      refine T_block ?_
      refine T_loopK (σ := PcSt) [0, 1, 2, 3, 10] (fun g => g.k ≤ l.length) (fun g kv => (12, .int .i64 (g.k : Int)) :: (11, .slice g.A (leftC (l.take g.k) v).length g.c) :: kv) (fun g => osl eventR 29 g.A g.c (leftC (l.take g.k) v) :: sl eventR A31 c31 (cutC l v) :: sl (intR .i64) V cv v :: sl eventR A c l :: L) (fun g => l.length - g.k) (⟨0, none, 0⟩) rfl (Nat.zero_le _) (osl_nil eventR 29 none _) (sub_cons rfl (sub_cons rfl (sub_cons rfl (sub_cons rfl (sub_cons rfl (sub_cons rfl (sub_cons rfl (sub_nil)))))))) ?_
      rintro ⟨k, X, cx⟩ hk2
      dsimp only at hk2 ⊢
      refine T_seq ?_
      refine T_region ?_
      refine TL_y rfl rfl (Y_move rfl) ?_
      refine TL_y rfl rfl (Y_move rfl) ?_
      refine TL_y rfl rfl (Y_len rfl) ?_
      refine TL_y rfl rfl (Y_lt rfl rfl) ?_
      refine TL_nil ?_
      refine T_if rfl (fun h35 => ?_) (fun h35 => ?_)
      · refine T_skip ?_
        refine thenS_normal ?_
        refine T_seq ?_
        refine T_block ?_
        obtain ⟨x, hx⟩ : ∃ x, l[k]? = some x := ⟨_, List.getElem?_eq_getElem (by omega)⟩
        have hls := left_snoc hx v
        have hll := left_len (l.take k) v
        rw [List.length_take] at hll
        refine T_region ?_
        refine TL_y rfl rfl (Y_move rfl) ?_
        refine TL_y rfl rfl (Y_move rfl) ?_
        refine TL_y rfl rfl (Y_move rfl) ?_
        refine TL_index_n rfl rfl rfl (rfl) ((sln (A := A) (c := c))) (hx) ?_
        intro bn41 on41 hA41 hk41
        have hu41 := hx
        refine TL_y rfl rfl (Y_field_addr2 rfl) ?_
        refine TL_load_nx rfl rfl hk41 hu41 (fun _ => rfl) ?_
        intro p43 ok43
        simp only [List.cons_append, List.nil_append]
        refine TL_call rfl rfl (vvHas_spec (SlK.n slk) x.dot) ?_
        rintro _ _ ⟨rfl, rfl⟩
        refine TL_y rfl rfl (Y_not rfl) ?_
        refine TL_nil ?_
        refine T_cond rfl (fun h45 => ?_) (fun h45 => ?_)
        · refine T_region_last ?_
          refine TL_y rfl rfl (Y_move rfl) ?_
          refine TL_y rfl rfl (Y_move rfl) ?_
          refine TL_y rfl rfl (Y_move rfl) ?_
          refine TL_index_n rfl rfl rfl (rfl) ((sln (A := A) (c := c))) (hx) ?_
          intro bn49 on49 hA49 hk49
          have hu49 := hx
          refine TL_load_nx rfl rfl hk49 hu49 (fun _ => rfl) ?_
          intro p50 ok50
          simp only [List.cons_append, List.nil_append]
          refine TL_build_slice rfl rfl rfl rfl rfl rfl ?_
          intro b51
          refine TL_osl (k := 1) eventR [x] (cells_one' (ex_rep p50 (sep_sl slk) ok50)) rfl (by decide) ?_
          refine TL_freeze_osl ?_
          refine TL_name 51 (v' := .slice (some ⟨b51, 0, none⟩) [x].length 1) rfl rfl ?_
          refine TL_append rfl rfl rfl rfl rfl slk (by simp only [List.length_cons, List.length_nil]; omega) ?_
          intro A52 c52
          refine TL_y rfl rfl (Y_assign rfl) ?_
          refine TL_nil ?_
          refine inB_normal ?_
          refine thenS_normal ?_
          refine T_region_last ?_
          refine TL_y rfl rfl (Y_move rfl) ?_
          refine TL_name 36 (v' := .int .i64 (k : Int)) rfl (rfl) ?_
          refine TL_y rfl rfl (Y_add rfl rfl (by omega)) ?_
          refine TL_name 37 (v' := .int .i64 ((k + 1 : Nat) : Int)) rfl (rfl) ?_
          refine TL_y rfl rfl (Y_assign rfl) ?_
          refine TL_nil ?_
          refine thenS_normal ?_
          rw [if_neg (by simpa using h45)] at hls
          rw [← hls]
          exact ⟨⟨k + 1, A52, c52⟩, (by simp only; omega), by simp only; omega, holds_to (sub_cons rfl (sub_cons rfl (sub_cons rfl (sub_cons rfl (sub_cons rfl (sub_cons rfl (sub_cons rfl (sub_nil)))))))) GivesTo.g⟩
        · refine T_skip ?_
          refine inB_normal ?_
          refine thenS_normal ?_
          refine T_region_last ?_
          refine TL_y rfl rfl (Y_move rfl) ?_
          refine TL_name 36 (v' := .int .i64 (k : Int)) rfl (rfl) ?_
          refine TL_y rfl rfl (Y_add rfl rfl (by omega)) ?_
          refine TL_name 37 (v' := .int .i64 ((k + 1 : Nat) : Int)) rfl (rfl) ?_
          refine TL_y rfl rfl (Y_assign rfl) ?_
          refine TL_nil ?_
          refine thenS_normal ?_
          rw [if_pos (by simpa using h45), List.append_nil] at hls
          rw [← hls]
          exact ⟨⟨k + 1, X, cx⟩, (by simp only; omega), by simp only; omega, holds_to (sub_cons rfl (sub_cons rfl (sub_cons rfl (sub_cons rfl (sub_cons rfl (sub_cons rfl (sub_cons rfl (sub_nil)))))))) GivesTo.g⟩
      · refine T_exit ?_
        refine thenS_exit ?_
        refine thenS_exit ?_
        refine inB_hit ?_
        refine thenS_normal ?_
        rw [List.take_of_length_le (show l.length ≤ k by omega)]
        refine T_freeze_osl ?_
        have hcl := cut_len l v
        have hel := left_len l v
        have hcq : ∀ e ∈ cutC l v, 0 ≤ e.qty ∧ e.qty ≤ 1000 := fun e he => hR.qty e (List.mem_filter.1 he).1
        have heq : ∀ e ∈ leftC l v, 0 ≤ e.qty ∧ e.qty ≤ 1000 := fun e he => hR.qty e (List.mem_filter.1 he).1
        have hb1 := lineF_bound hcq name sku
        have hb2 := lineF_bound heq name sku
        refine T_region ?_
        refine TL_y rfl rfl (Y_move rfl) ?_
        refine TL_y rfl rfl (Y_move rfl) ?_
        refine TL_call rfl rfl (lines_spec name (slk (A := A) (c := c)) (by omega) hR.qty) ?_
        rintro _ _ ⟨A55, c55, xs55, rfl, rfl, hx55, hl55⟩
        refine TL_y rfl rfl (Y_move rfl) ?_
        refine TL_call rfl rfl (of11_spec sku sln) ?_
        rintro _ _ ⟨rfl, rfl⟩
        refine TL_name 57 (v' := .int .i64 (lineF (cutC l v) name sku + lineF (leftC l v) name sku)) rfl (by rw [hx55.of hR.qty, pieces_line v hR hall]) ?_
        refine TL_y rfl rfl (Y_move rfl) ?_
        refine TL_y rfl rfl (Y_move rfl) ?_
        refine TL_call rfl rfl (lines_spec name (slk (A := A31) (c := c31)) (by omega) hcq) ?_
        rintro _ _ ⟨A60, c60, xs60, rfl, rfl, hx60, hl60⟩
        refine TL_y rfl rfl (Y_move rfl) ?_
        refine TL_call rfl rfl (of11_spec sku sln) ?_
        rintro _ _ ⟨rfl, rfl⟩
        refine TL_name 62 (v' := .int .i64 (lineF (cutC l v) name sku)) rfl (by rw [hx60.of hcq]) ?_
        refine TL_y rfl rfl (Y_move rfl) ?_
        refine TL_y rfl rfl (Y_move rfl) ?_
        refine TL_call rfl rfl (lines_spec name (slk (A := X) (c := cx)) (by omega) heq) ?_
        rintro _ _ ⟨A65, c65, xs65, rfl, rfl, hx65, hl65⟩
        refine TL_y rfl rfl (Y_move rfl) ?_
        refine TL_call rfl rfl (of11_spec sku sln) ?_
        rintro _ _ ⟨rfl, rfl⟩
        refine TL_name 67 (v' := .int .i64 (lineF (leftC l v) name sku)) rfl (by rw [hx65.of heq]) ?_
        refine TL_y rfl rfl (Y_add rfl rfl (by omega)) ?_
        refine TL_y rfl rfl (Y_eq rfl rfl) ?_
        refine TL_name 69 (v' := .bool true) rfl (congrArg Value.bool (decide_eq_true rfl)) ?_
        refine TL_y rfl rfl (Y_move rfl) ?_
        refine TL_grun rfl rfl ?_
        refine TL_y rfl rfl (Y_move rfl) ?_
        refine TL_grun rfl rfl ?_
        refine TL_y rfl rfl (Y_move rfl) ?_
        refine TL_grun rfl rfl ?_
        refine TL_call rfl rfl (lines_spec name (slk (A := A) (c := c)) (by omega) hR.qty) ?_
        rintro _ _ ⟨A73, c73, xs73, rfl, rfl, hx73, hl73⟩
        have ht73 := hx73.tot_le hR.qty
        refine TL_grun rfl rfl ?_
        refine TL_call rfl rfl (total_spec hx73.pos (by omega) sln) ?_
        rintro _ _ ⟨rfl, rfl⟩
        refine TL_grun rfl rfl ?_
        refine TL_y rfl rfl (Y_move rfl) ?_
        refine TL_grun rfl rfl ?_
        refine TL_y rfl rfl (Y_move rfl) ?_
        refine TL_grun rfl rfl ?_
        refine TL_call rfl rfl (lines_spec name (slk (A := A31) (c := c31)) (by omega) hcq) ?_
        rintro _ _ ⟨A77, c77, xs77, rfl, rfl, hx77, hl77⟩
        have ht77 := hx77.tot_le hcq
        have hp77 := (totX_take hx77.pos 0)
        have hq77 : 0 ≤ totX xs77 := (by omega)
        refine TL_grun rfl rfl ?_
        refine TL_call rfl rfl (total_spec hx77.pos (by omega) sln) ?_
        rintro _ _ ⟨rfl, rfl⟩
        refine TL_grun rfl rfl ?_
        refine TL_y rfl rfl (Y_move rfl) ?_
        refine TL_grun rfl rfl ?_
        refine TL_y rfl rfl (Y_move rfl) ?_
        refine TL_grun rfl rfl ?_
        refine TL_call rfl rfl (lines_spec name (slk (A := X) (c := cx)) (by omega) heq) ?_
        rintro _ _ ⟨A81, c81, xs81, rfl, rfl, hx81, hl81⟩
        have ht81 := hx81.tot_le heq
        have hp81 := (totX_take hx81.pos 0)
        have hq81 : 0 ≤ totX xs81 := (by omega)
        refine TL_grun rfl rfl ?_
        refine TL_call rfl rfl (total_spec hx81.pos (by omega) sln) ?_
        rintro _ _ ⟨rfl, rfl⟩
        refine TL_grun rfl rfl ?_
        refine TL_y rfl rfl (Y_add rfl rfl (by omega)) ?_
        refine TL_grun rfl rfl ?_
        refine TL_y rfl rfl (Y_eq rfl rfl) ?_
        refine TL_name 84 (v' := .bool true) rfl (congrArg Value.bool (decide_eq_true (pieces_tot v hR hall name hx73 hx77 hx81))) ?_
        refine TL_y rfl rfl (Y_pick_t rfl rfl) ?_
        refine TL_y rfl rfl (Y_assign rfl) ?_
        refine TL_nil ?_
        refine T_ret ?_
        exact RetG_1 (.inl rfl) rfl (ResV.tmp rfl) GivesTo.g (⟨rfl, rfl⟩)
  · refine T_region ?_
    refine TL_y rfl rfl (Y_move rfl) ?_
    refine TL_call rfl rfl (right11_spec slk) ?_
    rintro _ _ ⟨⟨r, rfl, hr⟩, rfl⟩
    obtain rfl : r = false := by cases r; rfl; exact absurd (hr.1 rfl) hR
    refine TL_y rfl rfl (Y_not rfl) ?_
    refine TL_name 17 (v' := .bool true) rfl (rfl) ?_
    refine TL_nil ?_
    refine T_cond_true rfl ?_
    refine T_region ?_
    refine TL_y rfl rfl (Y_assign rfl) ?_
    refine TL_nil ?_
    refine T_ret ?_
    refine thenS_ret ?_
    exact RetG_1 (.inl rfl) rfl (ResV.tmp rfl) GivesTo.g (⟨rfl, rfl⟩)
end Go.SL
set_option linter.unusedVariables false
set_option linter.unusedSimpArgs false
namespace Go.SL
open Go Go.Lib
section
variable {P : Program}
theorem zeroCells_empty {sz m : Nat} {z : Array Value} (hz : z.size = sz) (h : m * sz = 0) : Builtin.zeroCells z m = #[] := Array.eq_empty_of_size_eq_zero (by rw [size_zeroCells, hz, h])
theorem run_append_room_z {t u e : TypeId} {k : IntKind} {z : Value} {size bytes g sLen sCap m : Nat} {cur : List Value} {w : World} {ty' : TypeId} [ht : TyDesc P t (.slice e)] [hu : TyDesc P u (.int k)] [he : TyElem P e z size bytes] (hzl : z.cells.size = size) (hone : ∀ u ∈ (Builtin.zeroCells z.cells m).toList, u.oneCell' = true) (hg : w.heap[g]? = some (.cells cur.toArray e (0, 0)))
    (hroom : sLen + m ≤ sCap) (hfit : (sLen + m) * size ≤ cur.length) (hm : m * bytes ≤ 140737488355328) (hm2 : m ≤ 140737488355328) :
    (Builtin.append_ #[t, u] ty' #[.slice (some ⟨g, 0, none⟩) sLen sCap, .int .i64 (m : Int)]).run P w = .ok (.slice (some ⟨g, 0, none⟩) (sLen + m) sCap) (w.setRow g (cur.take (sLen * size) ++ (Builtin.zeroCells z.cells m).toList ++ cur.drop ((sLen + m) * size)).toArray) := by
  obtain ⟨i, hi, hz, hsz, hby⟩ := run_typeInfo (P := P) (e := e) (z := z) (size := size) (bytes := bytes)
  have hcount : (Builtin.zeroCells z.cells m).toList.length = m * size := by rw [Array.length_toList, size_zeroCells, hzl]
  have hst := run_storeCells_at P g (sLen * size) e (Builtin.zeroCells z.cells m).toList 0 cur.toArray w hg (by simp [hcount, ← Nat.add_mul]; exact hfit) hone
  simp only [Nat.add_zero] at hst
  have hw : IntKind.i64.wrap (m : Int) = (m : Int) := IntWalk.i64_in _ (by omega)
  have hneg : ¬ ((m : Int) < 0) := by omega
  have h48 : ¬ (281474976710656 < (m : Int) * (bytes : Int)) := by
    have : (m : Int) * (bytes : Int) = ((m * bytes : Nat) : Int) := by simp
    rw [this]; omega
  simp [Builtin.append_, ht.run, hu.run, sizeOf, typeInfo, zeroValue, hi, hz, hsz, hby, asInt, asIntOf, hw, hneg, h48, hroom, Addr.add_plain, hst, hcount, Nat.add_mul]
  intro h0
  rw [zeroCells_empty hzl h0] at hst ⊢
  simp only [List.length_nil, Nat.add_zero, List.append_nil, List.nil_append] at hst ⊢
  rw [hst, h0]
  simp
theorem run_append_none_z {t u e : TypeId} {k : IntKind} {z : Value} {size bytes sLen sCap : Nat} {A : Option Addr} {w : World} {ty' : TypeId} [ht : TyDesc P t (.slice e)] [hu : TyDesc P u (.int k)] [he : TyElem P e z size bytes] (hzl : z.cells.size = size) (hroom : sLen ≤ sCap) :
    (Builtin.append_ #[t, u] ty' #[.slice A sLen sCap, .int .i64 ((([] : List Nat).length : Nat) : Int)]).run P w = .ok (.slice A sLen sCap) w := by
  obtain ⟨i, hi, hz, hsz, hby⟩ := run_typeInfo (P := P) (e := e) (z := z) (size := size) (bytes := bytes)
  have hw : IntKind.i64.wrap 0 = 0 := IntWalk.i64_in _ (by omega)
  cases A <;> simp [Builtin.append_, ht.run, hu.run, sizeOf, typeInfo, zeroValue, hi, hz, hsz, hby, asInt, asIntOf, hw, hroom, storeCells]
theorem run_append_grow_z {t u e : TypeId} {k : IntKind} {z : Value} {size bytes sLen sCap m : Nat} {A : Option Addr} {w : World} {olds : List Value} {ty' : TypeId} [ht : TyDesc P t (.slice e)] [hu : TyDesc P u (.int k)] [he : TyElem P e z size bytes] (hb : 0 < bytes) (hzl : z.cells.size = size)
    (hlo : olds.length = sLen * size) (holds : sLen = 0 ∨ ∃ a, A = some a ∧ ∀ j v, olds[j]? = some v → w.cell? (a.add j) = some v) (hg : sCap < sLen + m) (h63 : sLen + m ≤ 9223372036854775807) (hfit : (sLen + m) * bytes ≤ 140737488355328) :
    (Builtin.append_ #[t, u] ty' #[.slice A sLen sCap, .int .i64 (m : Int)]).run P w = .ok (.slice (some ⟨w.heap.size, 0, none⟩) (sLen + m) (grownCap w (sLen + m) sCap e))
      (w.drew.alloc (.cells (olds.toArray ++ (Builtin.zeroCells z.cells m).toList.toArray ++ Builtin.zeroCells z.cells (grownCap w (sLen + m) sCap e - (sLen + m))) e)) := by
  obtain ⟨i, hi, hz, hsz, hby⟩ := run_typeInfo (P := P) (e := e) (z := z) (size := size) (bytes := bytes)
  have hn : ¬ (sLen + m ≤ sCap) := by omega
  have h63' : ¬ (9223372036854775807 < ((sLen : Int) + (m : Int))) := by omega
  have h48 := growslice_fits hg hfit
  have h48' : ¬ (281474976710656 < Builtin.nextslicecap (sLen + m) sCap * bytes) := by omega
  have hmb : m * bytes ≤ 140737488355328 := Nat.le_trans (Nat.mul_le_mul_right _ (by omega)) hfit
  have hw : IntKind.i64.wrap (m : Int) = (m : Int) := IntWalk.i64_in _ (by omega)
  have hneg : ¬ ((m : Int) < 0) := by omega
  have h48z : ¬ (281474976710656 < (m : Int) * (bytes : Int)) := by
    have : (m : Int) * (bytes : Int) = ((m * bytes : Nat) : Int) := by simp
    rw [this]; omega
  have hfo : (Builtin.firstCells size sLen (.slice A sLen sCap)).run P w.drew = .ok olds.toArray w.drew := run_firstCells' (w := w) rfl holds hlo
  simp [Builtin.append_, ht.run, hu.run, sizeOf, typeInfo, zeroValue, hi, hz, hsz, hby, asInt, asIntOf, hw, hneg, h48z, hn, h63', h48', Question.forced, hfo, newRow, grownCap]
  intro h0
  rw [zeroCells_empty hzl h0]
  simp
end
section
variable {r : Option Nat} {n : Nat} {P : Program} {ops : Array Oper} {rest : List Oper} {K : St → Prop} {Q : Exit → St → Prop} {D : List Deferred} {E : Env} {L L' : List HP} {d : Nat} {ty : TypeId} {pos : String} {af : Array Edge}
variable {α : Type} {R : Rep α} {A : Option Addr} {c : Nat} {xs ys : List α}
/-- Zeros appended to a slice that is ours: what comes of it. -/
theorem append_own_z {t u e : TypeId} {k0 : IntKind} {z : Value} {bytes c : Nat} {W w : World} [ht : TyDesc P t (.slice e)] [hu : TyDesc P u (.int k0)] [he : TyElem P e z R.sz bytes] (hb : 0 < bytes) (hzl : z.cells.size = R.sz) (hs : Sat W w (osl R e A c xs :: L)) (hone : ∀ u ∈ (Builtin.zeroCells z.cells ys.length).toList, u.oneCell' = true)
    (hcells : ∀ M h, Sep L M h → M.le (heapOf w) → CellsOf M R ys (Builtin.zeroCells z.cells ys.length).toList) (hfit : (xs.length + ys.length) * bytes ≤ 140737488355328) (ty' : TypeId) :
    ∃ A' c' w', (Builtin.append_ #[t, u] ty' #[.slice A xs.length c, .int .i64 (ys.length : Int)]).run P w = .ok (.slice A' (xs ++ ys).length c') w' ∧ Sat W w' (osl R e A' c' (xs ++ ys) :: L) := by
  have hcount : (Builtin.zeroCells z.cells ys.length).toList.length = ys.length * R.sz := by rw [Array.length_toList, size_zeroCells, hzl]
  have hlen : (xs ++ ys).length = xs.length + ys.length := by simp
  have hmax : xs.length + ys.length ≤ 140737488355328 := Nat.le_trans (Nat.le_mul_of_pos_right _ hb) hfit
  have hmaxEl : (xs ++ ys).length ≤ maxEl := by rw [hlen]; unfold maxEl; omega
  obtain ⟨M, k, hd, hM, hk, h1, h2, hd', l1, l2, hp, hsep⟩ := hs.ex
  have hnc := hcells M h2 hsep hM
  -- growing: all cells lie in a new block
  have grow : ∀ (olds : List Value), CellsOf M R xs olds → (xs.length = 0 ∨ ∃ a, A = some a ∧ ∀ j v, olds[j]? = some v → w.cell? (a.add j) = some v) → c < xs.length + ys.length →
      ∃ A' c' w', (Builtin.append_ #[t, u] ty' #[.slice A xs.length c, .int .i64 (ys.length : Int)]).run P w = .ok (.slice A' (xs ++ ys).length c') w' ∧ Sat W w' (osl R e A' c' (xs ++ ys) :: L) := by
    intro olds ho hold hg
    have hr := run_append_grow_z (P := P) (t := t) (u := u) (e := e) (z := z) (size := R.sz) (bytes := bytes) (ty' := ty') (m := ys.length) hb hzl ho.length hold hg (by omega) hfit
    refine ⟨_, _, _, by rw [hlen]; exact hr, ?_⟩
    have hcap := grownCap_ge w (xs.length + ys.length) c e
    have hcapm : grownCap w (xs.length + ys.length) c e ≤ maxLen := grownCap_le_maxLen w _ c e (by simp only [maxLen]; omega)
    have hsat : Sat W w.drew L := (hs.gives (Gives.drop _ _)).drew
    have hsat0 : Sat W w.drew (pers (fun M => CellsOf M R (xs ++ ys) (olds ++ (Builtin.zeroCells z.cells ys.length).toList)) (fun hM h => cellsOf_mono hM h) :: L) := by
      refine ⟨⟨M, h2, Mem.disj_le hd (Mem.le_refl _) l2, hM, Mem.le_trans l2 hk, Mem.emp, h2, Mem.emp_disj _, Mem.emp_le _, Mem.le_refl _, ho.append hnc, hsep⟩, hsat.os, hsat.tape, hsat.output, hsat.size⟩
    have hall := hsat0.alloc (.cells (olds.toArray ++ (Builtin.zeroCells z.cells ys.length).toList.toArray ++ Builtin.zeroCells z.cells (grownCap w (xs.length + ys.length) c e - (xs.length + ys.length))) e)
    refine hall.gives fun N m ⟨k1, k2, kd, m1, m2, ha, k3, k4, kd', m3, m4, hcs, hs'⟩ => ?_
    refine ⟨k1, k4, Mem.disj_le kd (Mem.le_refl _) m4, m1, Mem.le_trans m4 m2, ⟨hmaxEl, .inr ⟨_, _, rfl, ha, ?_, by rw [hlen]; exact hcap, by simpa [maxLen] using hcapm, fun i x hi => ?_⟩⟩, hs'⟩
    · have hl1 := ho.length
      have hl2 := hnc.length
      simp only [Array.size_append, List.size_toArray, size_zeroCells, hl1, hl2, hzl, ← Nat.add_mul]
      congr 1
      omega
    · obtain ⟨l, a, b⟩ := hcs.at_ i x hi
      refine ⟨l, a, fun j v hj => ?_⟩
      have hb := b j v hj
      have hlt : i * R.sz + j < (olds ++ (Builtin.zeroCells z.cells ys.length).toList).length := (List.getElem?_eq_some_iff.1 hb).1
      rw [Array.getElem?_append_left (by simpa using hlt)]
      rw [show olds.toArray ++ (Builtin.zeroCells z.cells ys.length).toList.toArray = (olds ++ (Builtin.zeroCells z.cells ys.length).toList).toArray by simp, List.getElem?_toArray]
      exact hb
  rcases hp.2 with ⟨rfl, rfl⟩ | ⟨g, cur, rfl, hg, hsz, hl, hc, hx⟩
  · by_cases hm : ys.length = 0
    · have : ys = [] := List.eq_nil_of_length_eq_zero hm
      subst this
      exact ⟨A, 0, w, run_append_none_z (P := P) (z := z) (size := R.sz) (bytes := bytes) hzl (Nat.le_refl _), hs⟩
    · exact grow [] rfl (.inl rfl) (by simp; omega)
  · have hw : w.heap[g]? = some (.cells cur e (0, 0)) := hk _ _ (l1 _ _ hg)
    by_cases hroom : xs.length + ys.length ≤ c
    · have hfit2 : (xs.length + ys.length) * R.sz ≤ cur.toList.length := by simp [hsz]; exact Nat.mul_le_mul_right _ hroom
      have hr := run_append_room_z (P := P) (t := t) (u := u) (z := z) (size := R.sz) (bytes := bytes) (ty' := ty') (m := ys.length) (cur := cur.toList) hzl hone (by simpa using hw) hroom hfit2 (Nat.le_trans (Nat.mul_le_mul_right _ (by omega)) hfit) (by omega)
      refine ⟨_, _, _, by rw [hlen]; exact hr, ?_⟩
      have hsat1 : Sat W w (own g (.cells cur e (0, 0)) :: pers (fun M => (∀ i x, xs[i]? = some x → ∃ l, R.rep M x l ∧ ∀ j v, l[j]? = some v → cur[i * R.sz + j]? = some v) ∧ CellsOf M R ys (Builtin.zeroCells z.cells ys.length).toList) (fun hM h => ⟨fun i x hi => let ⟨l, a, b⟩ := h.1 i x hi; ⟨l, R.mono hM a, b⟩, cellsOf_mono hM h.2⟩) :: L) :=
        ⟨⟨M, k, hd, hM, hk, h1, h2, hd', l1, l2, hg, Mem.emp, h2, Mem.emp_disj _, Mem.emp_le _, Mem.le_refl _, ⟨hx, hnc⟩, hsep⟩, hs.os, hs.tape, hs.output, hs.size⟩
      have hset := Sat.set hsat1 (w' := w.setRow g (cur.toList.take (xs.length * R.sz) ++ (Builtin.zeroCells z.cells ys.length).toList ++ cur.toList.drop ((xs.length + ys.length) * R.sz)).toArray) (y := .cells (cur.toList.take (xs.length * R.sz) ++ (Builtin.zeroCells z.cells ys.length).toList ++ cur.toList.drop ((xs.length + ys.length) * R.sz)).toArray e (0, 0))
        (by simp only [World.setRow, Array.getElem?_modify, if_true, hw, Option.map_some]) (fun i hi => by simp only [World.setRow, Array.getElem?_modify]; rw [if_neg (Ne.symm hi)]) rfl rfl rfl (by simp [World.setRow])
      refine hset.gives fun N m ⟨k1, k2, kd, m1, m2, ha, k3, k4, kd', m3, m4, ⟨hx', hn'⟩, hs'⟩ => ?_
      have hnl := hn'.length
      have hcl : cur.toList.length = c * R.sz := by simp [hsz]
      refine ⟨k1, k4, Mem.disj_le kd (Mem.le_refl _) m4, m1, Mem.le_trans m4 m2, ⟨hmaxEl, .inr ⟨g, _, rfl, ha, ?_, by rw [hlen]; exact hroom, hc, fun i x hi => ?_⟩⟩, hs'⟩
      · simp only [List.size_toArray, List.length_append, List.length_take, List.length_drop, hnl, hcl]
        have e1 : (xs.length + ys.length) * R.sz = xs.length * R.sz + ys.length * R.sz := Nat.add_mul _ _ _
        omega
      · have e1 : (xs.length + ys.length) * R.sz = xs.length * R.sz + ys.length * R.sz := Nat.add_mul _ _ _
        have hle : xs.length * R.sz ≤ cur.toList.length := by omega
        have htl : (cur.toList.take (xs.length * R.sz)).length = xs.length * R.sz := by rw [List.length_take]; omega
        by_cases hi2 : i < xs.length
        · rw [List.getElem?_append_left hi2] at hi
          obtain ⟨l, a, b⟩ := hx' i x hi
          refine ⟨l, a, fun j v hj => ?_⟩
          have hjl : j < R.sz := by rw [← R.len a]; exact (List.getElem?_eq_some_iff.1 hj).1
          have hin : i * R.sz + j < xs.length * R.sz := by
            have : (i + 1) * R.sz ≤ xs.length * R.sz := Nat.mul_le_mul_right _ hi2
            rw [Nat.add_mul] at this
            omega
          have hb := b j v hj
          simp only [List.getElem?_toArray]
          rw [List.append_assoc, List.getElem?_append_left (by omega), List.getElem?_take, if_pos hin]
          simpa using hb
        · rw [List.getElem?_append_right (by omega)] at hi
          obtain ⟨l, a, b⟩ := hn'.at_ _ x hi
          refine ⟨l, a, fun j v hj => ?_⟩
          have hb := b j v hj
          have hlt : (i - xs.length) * R.sz + j < (Builtin.zeroCells z.cells ys.length).toList.length := (List.getElem?_eq_some_iff.1 hb).1
          have hge : xs.length * R.sz ≤ i * R.sz := Nat.mul_le_mul_right _ (by omega)
          have hsub : (i - xs.length) * R.sz = i * R.sz - xs.length * R.sz := Nat.sub_mul _ _ _
          simp only [List.getElem?_toArray]
          rw [List.append_assoc, List.getElem?_append_right (by omega), htl, show i * R.sz + j - xs.length * R.sz = (i - xs.length) * R.sz + j by omega, List.getElem?_append_left hlt]
          exact hb
    · obtain ⟨olds, h3, h4⟩ := cells_of_array (R := R) (M := M) (cur := cur) (o := 0) (xs := xs) (k := 0) (fun i x hi => by
        obtain ⟨l, a, b⟩ := hx i x hi
        exact ⟨l, a, fun j v hj => by rw [Nat.zero_add, Nat.zero_add]; exact b j v hj⟩)
      refine grow olds h3 (.inr ⟨_, rfl, fun j v hj => ?_⟩) (by omega)
      rw [Addr.add_plain, cell_of hw]
      simpa using h4 j v hj
theorem TL_append_zeros {x y : Operand} {t u e : TypeId} {k0 : IntKind} {z : Value} {bytes m : Nat} {L0 : List HP} (x0 : α) [ht : TyDesc P t (.slice e)] [hu : TyDesc P u (.int k0)] (hd : Nat.blt d n = true) (hx : ev E x = some (.slice A xs.length c)) (hy : ev E y = some (.int .i64 (m : Int))) [hf : FindO L A c α R e xs L0]
    [he : TyElem P e z R.sz bytes] {zl : List Value} (hz : partsOf z = some zl) (hb : Nat.blt 0 bytes = true) (hx0 : ∀ M, R.rep M x0 zl) (hfit : (xs.length + m) * bytes ≤ 140737488355328)
    (h : ∀ A' c', TL r n P ops rest ⟨D, (d, .slice A' (xs ++ List.replicate m x0).length c') :: E, osl R e A' c' (xs ++ List.replicate m x0) :: L0⟩ K) :
    TL r n P ops (⟨some d, .call { callee := .builtin .append, args := #[x, y], argTypes := #[t, u] }, ty, pos, af, none⟩ :: rest) ⟨D, E, L⟩ K :=
  TL_val rfl hd rfl (fun _ e => by cases e) fun W a w hh => by
    have hs := hh.2.gives hf.g
    have hzs : z.cells.size = R.sz := by rw [partsOf_eq hz, List.size_toArray]; exact R.len (hx0 Mem.emp)
    have hzz : ∀ k, (Builtin.zeroCells z.cells k).toList = zerosN k zl := fun k => by
      have := zerosN_array zl k
      unfold Builtin.zeroCells
      rw [List.size_toArray] at this
      rw [partsOf_eq hz, List.size_toArray, this]
    obtain ⟨A', c', w', hr, hs'⟩ := append_own_z (P := P) (t := t) (u := u) (ys := List.replicate m x0) (by simpa using hb) hzs hs (fun v hv => by
      rw [hzz] at hv
      exact (cellsOf_zeros (M := Mem.emp) (hx0 Mem.emp) _).one v hv) (fun N m' _ _ => by
      rw [hzz, List.length_replicate]; exact cellsOf_zeros (hx0 N) m) (by rw [List.length_replicate]; exact hfit) ty
    rw [List.length_replicate] at hr
    refine ⟨_, w', _, ?_, hs', h A' c'⟩
    simp [execOp, resolve, invoke, builtin, hh.1.ev hx, hh.1.ev hy, hr]
end
end Go.SL
