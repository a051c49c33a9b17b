/- The rules of the logic: resources that have a key; what is shut behind a name. Nothing in this text is about one program. -/
import Derived.Test.YtibejpgjgkeheaaSlM
set_option linter.unusedVariables false
set_option linter.unusedSimpArgs false
set_option linter.unusedSectionVars false
namespace Go.SL
open Go
/-- Assertions with a key: the one of key k is p; R: all else. -/
class FindK (L : List HP) (k : Nat) (p : outParam HP) (R : outParam (List HP)) : Prop where
  g : Gives L (p :: R)
instance findK_tail {q : HP} {L R : List HP} {k : Nat} {p : HP} [h : FindK L k p R] : FindK (q :: L) k p (q :: R) := ⟨(Gives.cons q h.g).trans (Gives.swap q _ R)⟩
theorem sep_append {M : Mem} {B : List HP} : ∀ {A : List HP} {h h1 h2 : Mem}, Sep A M h1 → Sep B M h2 → h1.disj h2 → h1.le h → h2.le h → Sep (A ++ B) M h
  | [], h, h1, h2, _, hb, _, _, l2 => Sep.mono (Mem.le_refl _) l2 hb
  | p :: A, h, h1, h2, ⟨a1, a2, ad, m1, m2, hp, hs⟩, hb, hd, l1, l2 => by
    refine ⟨a1, a2.join h2, ?_, Mem.le_trans m1 l1, Mem.join_le (Mem.le_trans m2 l1) l2, hp, sep_append (h := a2.join h2) hs hb (Mem.disj_le hd m2 (Mem.le_refl _)) (Mem.le_join_left _ _) (Mem.le_join_right (Mem.disj_le hd m2 (Mem.le_refl _)))⟩
    exact Mem.disj_symm (Mem.join_disj (Mem.disj_symm ad) (Mem.disj_symm (Mem.disj_le hd m1 (Mem.le_refl _))))
theorem sep_split {M : Mem} {B : List HP} : ∀ {A : List HP} {h : Mem}, Sep (A ++ B) M h → ∃ h1 h2, h1.disj h2 ∧ h1.le h ∧ h2.le h ∧ Sep A M h1 ∧ Sep B M h2
  | [], h, hs => ⟨Mem.emp, h, Mem.emp_disj _, Mem.emp_le _, Mem.le_refl _, trivial, hs⟩
  | p :: A, h, ⟨a1, a2, ad, m1, m2, hp, hs⟩ => by
    obtain ⟨b1, b2, bd, n1, n2, hA, hB⟩ := sep_split hs
    refine ⟨a1.join b1, b2, ?_, Mem.join_le m1 (Mem.le_trans n1 m2), Mem.le_trans n2 m2, ⟨a1, b1, Mem.disj_le ad (Mem.le_refl _) n1, Mem.le_join_left _ _, Mem.le_join_right (Mem.disj_le ad (Mem.le_refl _) n1), hp, hA⟩, hB⟩
    exact Mem.join_disj (Mem.disj_le ad (Mem.le_refl _) n2) bd
def exH {β : Type} (f : β → List HP) : HP := ⟨fun M h => ∃ x, Sep (f x) M h, fun hM hh ⟨x, h⟩ => ⟨x, Sep.mono hM hh h⟩⟩
theorem exH_close {β : Type} {f : β → List HP} {L : List HP} (x : β) : Gives (f x ++ L) (exH f :: L) := fun M h hs => by
  obtain ⟨h1, h2, hd, l1, l2, hA, hB⟩ := sep_split hs
  exact ⟨h1, h2, hd, l1, l2, ⟨x, hA⟩, hB⟩
theorem exH_open {β : Type} {f : β → List HP} {L : List HP} {W w : World} (h : Sat W w (exH f :: L)) : ∃ x, Sat W w (f x ++ L) := by
  obtain ⟨M, k, hd, hM, hk, h1, h2, hd', l1, l2, ⟨x, hx⟩, hs⟩ := h.ex
  exact ⟨x, ⟨M, k, hd, hM, hk, sep_append hx hs hd' l1 l2⟩, h.os, h.tape, h.output, h.size⟩
section
variable {r : Option Nat} {n : Nat} {P : Program} {ops : Array Oper} {rest : List Oper} {K : St → Prop} {Q : Exit → St → Prop} {D : List Deferred} {E : Env} {L L' : List HP} {d : Nat} {ty : TypeId} {pos : String} {af : Array Edge}
theorem TL_pullk (k : Nat) {p : HP} {R : List HP} [hf : FindK L k p R] (h : TL r n P ops rest ⟨D, E, p :: R⟩ K) : TL r n P ops rest ⟨D, E, L⟩ K := TL_gives hf.g h
theorem T_pullk (k : Nat) {p : HP} {R : List HP} {c : Code} [hf : FindK L k p R] (h : T r n P c ⟨D, E, p :: R⟩ Q) : T r n P c ⟨D, E, L⟩ Q := T_gives hf.g h
theorem TL_exH {β : Type} {f : β → List HP} (h : ∀ x, TL r n P ops rest ⟨D, E, f x ++ L⟩ K) : TL r n P ops rest ⟨D, E, exH f :: L⟩ K := fun W a w hh => by
  obtain ⟨x, hx⟩ := exH_open hh.2
  exact h x W a w ⟨hh.1, hx⟩
theorem T_exH {β : Type} {f : β → List HP} {c : Code} (h : ∀ x, T r n P c ⟨D, E, f x ++ L⟩ Q) : T r n P c ⟨D, E, exH f :: L⟩ Q := fun W a w hh => by
  obtain ⟨x, hx⟩ := exH_open hh.2
  exact h x W a w ⟨hh.1, hx⟩
theorem Fn_exH {β : Type} {f : β → List HP} {g : FuncId} {args : Array Value} {Φ : Value → List HP → Prop} (h : ∀ x, Fn P g args (f x ++ L) Φ) : Fn P g args (exH f :: L) Φ := fun W w hh => by
  obtain ⟨x, hx⟩ := exH_open hh
  exact h x W w hx
end
end Go.SL
