/- Seal: the machine of orders, told plainly and in memory. -/
import Derived.Test.YtcpknfcckekhdaaWrD
import Derived.Test.YtcpknfcckekhdaaSlN
set_option linter.unusedVariables false
set_option linter.unusedSimpArgs false
namespace Go.SL
open Go Go.Proofs
structure OrdD where
  id : Int
  x : OrderD
abbrev ordC (o : OrdD) (p : Option Addr × Nat) : List Value := [.int .i64 o.id, .string o.x.token, .string o.x.cart, .int .i64 o.x.epoch, .slice p.1 o.x.cut.length p.2]
abbrev ordV (o : OrdD) (p : Option Addr × Nat) : Value := .agg (List.toArray (ordC o p))
def ordOk (o : OrdD) : Prop := intIn .i64 o.id ∧ orderOk' o.x
def ordR : Rep OrdD := exR 5 ordC (fun o p => [sl (intR .i64) p.1 p.2 o.x.cut]) ordOk (fun _ _ => rfl) (fun _ _ => rfl)
abbrev ord0 : OrdD := ⟨0, ⟨emptyS, emptyS, 0, []⟩⟩
theorem ord0_ok : ordOk ord0 := ⟨by decide, by unfold orderOk'; decide⟩

/-! ### The machine, plainly -/
structure SM where
  os : List OrdD
  dn : Int
def cntS (os : List OrdD) (cart : ByteArray) : Nat := (os.filter fun o => decide (o.x.cart = cart)).length
def tokS (os : List OrdD) (t : ByteArray) : Option OrdD := os.find? fun o => decide (o.x.token = t)
def tokI (os : List OrdD) (t : ByteArray) : Nat := match os.findIdx? fun o => decide (o.x.token = t) with | some i => i + 1 | none => 0
def newS (os : List OrdD) (x : OrderD) : OrdD := ⟨((os.length : Nat) : Int) + 1, x⟩
/-- What carrying out an entry comes to: the machine, the order that is told, whether it was made, the error. -/
def doS (s : SM) (e : EntryD) : SM × OrdD × Bool × Int :=
  if ¬ rEntry e then (s, ord0, false, 1)
  else if e.noop = true then (⟨s.os, s.dn + 1⟩, ord0, false, 0)
  else match tokS s.os e.order.token with
    | some o => (⟨s.os, s.dn + 1⟩, o, false, 0)
    | none =>
      if e.order.epoch ≠ (cntS s.os e.order.cart : Int) then (⟨s.os, s.dn + 1⟩, ord0, false, 190)
      else if 65536 ≤ s.os.length then (⟨s.os, s.dn + 1⟩, ord0, false, 2)
      else (⟨s.os ++ [newS s.os e.order], s.dn + 1⟩, newS s.os e.order, true, 0)
def getS (os : List OrdD) (id : Int) : Option OrdD := if 1 ≤ id ∧ id ≤ (os.length : Int) then os[(id - 1).toNat]? else none
def orE (o : Option OrdD) : OrdD := o.getD ord0
theorem tokS_none {os : List OrdD} {t : ByteArray} : tokS os t = none ↔ tokI os t = 0 := by
  unfold tokS tokI
  rw [List.find?_eq_none]
  cases e : os.findIdx? fun o => decide (o.x.token = t) with
  | none => simp [List.findIdx?_eq_none_iff] at e; simp; exact fun o ho => e o ho
  | some i =>
    simp
    obtain ⟨h, h2, _⟩ := List.findIdx?_eq_some_iff_getElem.1 e
    exact ⟨_, List.getElem_mem h, by simpa using h2⟩
theorem tokS_get (os : List OrdD) (t : ByteArray) : tokS os t = getS os (tokI os t : Int) := by
  unfold tokS tokI
  cases e : os.findIdx? fun o => decide (o.x.token = t) with
  | none =>
    simp [List.findIdx?_eq_none_iff] at e
    simp [getS]
    exact fun o ho => e o ho
  | some i =>
    obtain ⟨h, h2, h3⟩ := List.findIdx?_eq_some_iff_getElem.1 e
    simp only []
    rw [getS, if_pos (by omega), show (((i + 1 : Nat) : Int) - 1).toNat = i by omega, List.getElem?_eq_getElem h]
    exact List.find?_eq_some_iff_getElem.2 ⟨h2, i, h, rfl, fun j hj => by simpa using h3 j hj⟩
theorem cntS_le (os : List OrdD) (c : ByteArray) : cntS os c ≤ os.length := List.length_filter_le _ _
/-- What the maps hold. -/
def SInv (s : SM) (tk ep : List (ByteArray × Int)) : Prop :=
  s.os.length ≤ 65536 ∧ (∀ t, (getM tk t).getD 0 = (tokI s.os t : Int)) ∧ (∀ c, (getM ep c).getD 0 = (cntS s.os c : Int))
structure SP where
  A : Option Addr
  c : Nat
  bt : Nat
  be : Nat
  tk : List (ByteArray × Int)
  ep : List (ByteArray × Int)
abbrev smF (b : Nat) (s : SM) (p : SP) : List HP := [cells b [.slice p.A s.os.length p.c, .map (some p.bt), .map (some p.be), .int .i64 s.dn] 113, osl ordR 29 p.A p.c s.os, omap strK (intR .i64) false p.bt p.tk, omap strK (intR .i64) false p.be p.ep, pure (SInv s p.tk p.ep)]
def sm (b : Nat) (s : SM) : HP := exH (smF b s)
instance findK_sm {L : List HP} {b : Nat} {s : SM} : FindK (sm b s :: L) b (sm b s) L := ⟨Gives.refl _⟩
section
variable {r : Option Nat} {n : Nat} {P : Program} {ops : Array Oper} {rest : List Oper} {K : St → Prop} {Q : Exit → St → Prop} {D : List Deferred} {E : Env} {L L' : List HP} {b : Nat} {s : SM}
theorem sm_pure {p : SP} : Gives (smF b s p ++ L) (pure (SInv s p.tk p.ep) :: cells b [.slice p.A s.os.length p.c, .map (some p.bt), .map (some p.be), .int .i64 s.dn] 113 :: osl ordR 29 p.A p.c s.os :: omap strK (intR .i64) false p.bt p.tk :: omap strK (intR .i64) false p.be p.ep :: L) := Gives.pull 4 _
theorem gives_fact {p : Prop} {W w : World} (h : Sat W w (pure p :: L)) : p ∧ Sat W w L := by
  obtain ⟨M, k, hd, hM, hk, h1, h2, hd', l1, l2, hp, hs⟩ := h.ex
  exact ⟨hp, h.gives (Gives.drop _ _)⟩
theorem T_sm {c : Code} (h : ∀ p : SP, SInv s p.tk p.ep → T r n P c ⟨D, E, cells b [.slice p.A s.os.length p.c, .map (some p.bt), .map (some p.be), .int .i64 s.dn] 113 :: osl ordR 29 p.A p.c s.os :: omap strK (intR .i64) false p.bt p.tk :: omap strK (intR .i64) false p.be p.ep :: L⟩ Q) : T r n P c ⟨D, E, sm b s :: L⟩ Q := fun W a w hh => by
  obtain ⟨p, hp⟩ := exH_open hh.2
  obtain ⟨hi, hs⟩ := gives_fact (hp.gives sm_pure)
  exact h p hi W a w ⟨hh.1, hs⟩
theorem TL_sm (h : ∀ p : SP, SInv s p.tk p.ep → TL r n P ops rest ⟨D, E, cells b [.slice p.A s.os.length p.c, .map (some p.bt), .map (some p.be), .int .i64 s.dn] 113 :: osl ordR 29 p.A p.c s.os :: omap strK (intR .i64) false p.bt p.tk :: omap strK (intR .i64) false p.be p.ep :: L⟩ K) : TL r n P ops rest ⟨D, E, sm b s :: L⟩ K := fun W a w hh => by
  obtain ⟨p, hp⟩ := exH_open hh.2
  obtain ⟨hi, hs⟩ := gives_fact (hp.gives sm_pure)
  exact h p hi W a w ⟨hh.1, hs⟩
theorem sm_close {A : Option Addr} {c bt be : Nat} {os : List OrdD} {dn : Int} {tk ep : List (ByteArray × Int)} {L1 L2 L3 L4 : List HP} (b : Nat) [h1 : FindC L b [.slice A os.length c, .map (some bt), .map (some be), .int .i64 dn] 113 L1] [h2 : FindO L1 A c OrdD ordR 29 os L2] [h3 : FindM L2 bt ByteArray Int strK (intR .i64) false tk L3] [h4 : FindM L3 be ByteArray Int strK (intR .i64) false ep L4] (hi : SInv ⟨os, dn⟩ tk ep) : Gives L (sm b ⟨os, dn⟩ :: L4) := by
  refine Gives.trans (h1.g.trans (Gives.cons _ (h2.g.trans (Gives.cons _ (h3.g.trans (Gives.cons _ h4.g)))))) ?_
  refine Gives.trans ?_ (exH_close (f := smF b ⟨os, dn⟩) ⟨A, c, bt, be, tk, ep⟩)
  exact Gives.cons _ (Gives.cons _ (Gives.cons _ (Gives.cons _ (Gives.pure_intro hi))))
theorem sm_shut {A : Option Addr} {c bt be : Nat} {tk ep : List (ByteArray × Int)} {L1 L2 L3 L4 : List HP} (b : Nat) (s : SM) [h1 : FindC L b [.slice A s.os.length c, .map (some bt), .map (some be), .int .i64 s.dn] 113 L1] [h2 : FindO L1 A c OrdD ordR 29 s.os L2] [h3 : FindM L2 bt ByteArray Int strK (intR .i64) false tk L3] [h4 : FindM L3 be ByteArray Int strK (intR .i64) false ep L4] (hi : SInv s tk ep) : Gives L (sm b s :: L4) := by
  refine Gives.trans (h1.g.trans (Gives.cons _ (h2.g.trans (Gives.cons _ (h3.g.trans (Gives.cons _ h4.g)))))) ?_
  refine Gives.trans ?_ (exH_close (f := smF b s) ⟨A, c, bt, be, tk, ep⟩)
  exact Gives.cons _ (Gives.cons _ (Gives.cons _ (Gives.cons _ (Gives.pure_intro hi))))
end
end Go.SL
