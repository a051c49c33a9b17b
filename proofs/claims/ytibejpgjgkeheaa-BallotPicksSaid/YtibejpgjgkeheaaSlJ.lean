/- The rules of the logic: data that holds slices. Nothing in this text is about one program. -/
import Derived.Test.YtibejpgjgkeheaaSlI
set_option linter.unusedVariables false
set_option linter.unusedSimpArgs false
namespace Go.SL
open Go
theorem sep_app {M : Mem} {B : List HP} : ∀ {A : List HP} {h : Mem}, Sep A M Mem.emp → Sep B M h → Sep (A ++ B) M h
  | [], h, _, hb => hb
  | p :: A, h, ⟨h1, h2, _, l1, l2, hp, hs⟩, hb => ⟨Mem.emp, h, Mem.emp_disj _, Mem.emp_le _, Mem.le_refl _, p.mono (Mem.le_refl _) l1 hp, sep_app (Sep.mono (Mem.le_refl _) l2 hs) hb⟩
/-- Data whose cells tell where the rest lies: f, with the assertions g. -/
def exR {α β : Type} (sz : Nat) (f : α → β → List Value) (g : α → β → List HP) (ok : α → Prop) (hlen : ∀ x p, (f x p).length = sz) (hone : ∀ x p, oneN (f x p) = true) : Rep α :=
  ⟨sz, fun M x cs => ∃ p, cs = f x p ∧ Sep (g x p) M Mem.emp ∧ ok x, fun hM ⟨p, e, hs, h⟩ => ⟨p, e, Sep.mono hM (Mem.le_refl _) hs, h⟩, fun ⟨p, e, _, _⟩ => by rw [e]; exact hlen _ _, fun ⟨p, e, _, _⟩ v hv => by rw [e] at hv; exact oneN_mem (hone _ _) v hv⟩
section
variable {r : Option Nat} {n : Nat} {P : Program} {ops : Array Oper} {rest : List Oper} {K : St → Prop} {Q : Exit → St → Prop} {D : List Deferred} {E : Env} {L L' : List HP}
variable {α β : Type} {sz : Nat} {f : α → β → List Value} {g : α → β → List HP} {ok : α → Prop} {hlen : ∀ x p, (f x p).length = sz} {hone : ∀ x p, oneN (f x p) = true}
theorem ex_gives {u : α} {l : List Value} {b o : Nat} {W w : World} (h : Sat W w (row b o l :: is (exR sz f g ok hlen hone) u l :: L)) : ∃ p, l = f u p ∧ ok u ∧ Sat W w (row b o (f u p) :: (g u p ++ L)) := by
  obtain ⟨M, k, hd, hM, hk, h1, h2, hd1, l1, l2, hr, h3, h4, hd2, l3, l4, ⟨p, e, hs, hok⟩, hL⟩ := h.ex
  subst e
  exact ⟨p, rfl, hok, ⟨M, k, hd, hM, hk, h1, h2, hd1, l1, l2, hr, sep_app hs (Sep.mono (Mem.le_refl _) l4 hL)⟩, h.os, h.tape, h.output, h.size⟩
theorem TL_ex {u : α} {l : List Value} {b o : Nat} (h : ∀ p, ok u → TL r n P ops rest ⟨D, E, row b o (f u p) :: (g u p ++ L)⟩ K) : TL r n P ops rest ⟨D, E, row b o l :: is (exR sz f g ok hlen hone) u l :: L⟩ K := fun W a w hh => by
  obtain ⟨p, _, hok, hs⟩ := ex_gives hh.2
  exact h p hok W a w ⟨hh.1, hs⟩
theorem T_ex {u : α} {l : List Value} {b o : Nat} {c : Code} (h : ∀ p, ok u → T r n P c ⟨D, E, row b o (f u p) :: (g u p ++ L)⟩ Q) : T r n P c ⟨D, E, row b o l :: is (exR sz f g ok hlen hone) u l :: L⟩ Q := fun W a w hh => by
  obtain ⟨p, _, hok, hs⟩ := ex_gives hh.2
  exact h p hok W a w ⟨hh.1, hs⟩
/-- Such an element's cells, made. -/
theorem ex_rep {u : α} (p : β) (hk : Knows L (fun M => Sep (g u p) M Mem.emp)) (hok : ok u) : Knows L (fun M => (exR sz f g ok hlen hone).rep M u (f u p)) := hk.mono fun M h => ⟨p, rfl, h, hok⟩
theorem sep_sl {γ : Type} {R : Rep γ} {A : Option Addr} {c : Nat} {xs : List γ} (hk : SlK L R A c xs) : Knows L (fun M => Sep [sl R A c xs] M Mem.emp) := hk.mono fun M h => ⟨Mem.emp, Mem.emp, Mem.emp_disj _, Mem.le_refl _, Mem.le_refl _, h, trivial⟩
end
end Go.SL
