/- The rules of the logic: regions of which several orders are walked, one by one. Nothing in this text is about one program. -/
import Derived.Test.YtibejpgjgkeheaaSlD
set_option linter.unusedVariables false
namespace Go.SL
open Go
variable {r : Option Nat} {n : Nat} {P : Program} {s : St} {Q : Exit → St → Prop}
theorem vs_adds {ops : Array Oper} {X : List (Nat × Nat)} : ∀ {l : List Nat} {p : Nat → Prop}, (∀ e ∈ X, ∀ s1 s2, l = s1 ++ e.2 :: s2 → e.1 ∈ s1 ∨ p e.1) → VS [] ops p l → VS X ops p l
  | [], _, _, _ => trivial
  | k :: r, p, h, ⟨h1, h2⟩ => by
    refine ⟨fun o ho e he => ?_, vs_adds (fun x hx s1 s2 e => ?_) h2⟩
    · rcases List.mem_append.1 he with he | he
      · exact h1 o ho e (by rw [depsX_nil]; exact he)
      · obtain ⟨x, hx, rfl⟩ := List.mem_map.1 he
        have hx := List.mem_filter.1 hx
        have hk : x.2 = k := Nat.eq_of_beq_eq_true hx.2
        rcases h x hx.1 [] r (by rw [hk]; rfl) with h | h
        · cases h
        · exact h
    · rcases h x hx (k :: s1) s2 (by rw [e]; rfl) with h | h
      · rcases List.mem_cons.1 h with h | h
        · exact .inr (.inl h)
        · exact .inl h
      · exact .inr (.inr h)
/-- The region, in whatever order that keeps the pairs of X. -/
def RD (r : Option Nat) (n : Nat) (P : Program) (l : List Oper) (X : List (Nat × Nat)) (s : St) (Q : Exit → St → Prop) : Prop :=
  ∀ W a w, Holds n W s a w → ∀ sched : List Nat, VS [] l.toArray (fun i => (Array.replicate l.length false).getD i false = true) sched → (∀ e ∈ X, ∀ s1 s2, sched = s1 ++ e.2 :: s2 → e.1 ∈ s1) → (∀ i, i < l.length → i ∈ sched) → sched.Nodup → (∀ i ∈ sched, i < l.length) → sched.length = l.length →
    wpOpsIn (Fw r) 0 P l.toArray (fun e a w => ∃ s', Q e s' ∧ Holds n W s' a w) sched a w
theorem RD_leaf {l : List Oper} {X : List (Nat × Nat)} (Fl : List HP) (B tl : List Nat) (π : List (Nat × Bool)) (hok : regionOk X l B tl π = true) (hFl : Gives s.L Fl) (h : TF r n P l.toArray tl Fl π s (fun s' => Q .normal s')) : RD r n P l X s Q := fun W a w hh sched k1 hX k2 k3 k4 k5 =>
  wpF_ops (fun a' w' s' hk hh' => ⟨s', hk, hh'⟩) _ _ _ (region_run Fl B tl π hok hFl h hh (vs_adds (fun e he s1 s2 h => .inl (hX e he s1 s2 h)) k1) k2 k3 k4 k5)
theorem RD_pair {l : List Oper} {X : List (Nat × Nat)} (i j : Nat) (hij : i ≠ j) (h1 : RD r n P l ((i, j) :: X) s Q) (h2 : RD r n P l ((j, i) :: X) s Q) : RD r n P l X s Q := fun W a w hh sched k1 hX k2 k3 k4 k5 => by
  rcases order_or hij sched with ho | ho
  · exact h1 W a w hh sched k1 (fun e he => by rcases List.mem_cons.1 he with rfl | he; exact ho; exact hX e he) k2 k3 k4 k5
  · exact h2 W a w hh sched k1 (fun e he => by rcases List.mem_cons.1 he with rfl | he; exact ho; exact hX e he) k2 k3 k4 k5
theorem T_rd_last {id : Nat} {l : List Oper} (B : List Nat) (hmix : P.follows .mixedOrders = true) (hm : masksOk [] B l 0 = true) (h : RD r n P l [] s Q) : T r n P (.region id l.toArray true) s Q := fun W a w hh => by
  refine wpIn_region_draw fun t => ?_
  simp only [Region.schedule, hmix, Bool.true_or, if_true]
  obtain ⟨k1, k2, k3, k4, k5⟩ := sched_ok hm l.length t (Array.replicate l.length false) (by simp) (unl_all l)
  have hlin : Region.linearise .any l.toArray t = Region.linearise.go .any l.toArray l.length t (Array.replicate l.length false) [] := by
    simp [Region.linearise]
  rw [hlin]
  exact h W a _ ⟨hh.1, hh.2.drew⟩ _ k1 (fun e he => by cases he) (fun i hi => k2 i hi (by simp [Array.getD_eq_getD_getElem?, hi])) k3 (fun i hi => (k4 i hi).1) k5
theorem T_rd {id : Nat} {l : List Oper} {y : Code} (B : List Nat) (hmix : P.follows .mixedOrders = true) (hm : masksOk [] B l 0 = true) (h : RD r n P l [] s (thenS (fun s' => T r n P y s' Q) Q)) : T r n P (.seq (.region id l.toArray true) y) s Q := T_seq (T_rd_last B hmix hm h)
end Go.SL
