/- The rules of the logic: small steps between states; joining ways; finding assertions. Nothing in this text is about one program. -/
import Derived.Test.YtibejpgjgkeheaaSlF
import Derived.Lib.Strings
set_option linter.unusedVariables false
set_option linter.unusedSimpArgs false
namespace Go.SL
open Go

section
variable {r : Option Nat} {n : Nat} {P : Program} {ops : Array Oper} {rest : List Oper} {K : St → Prop} {Q : Exit → St → Prop} {D : List Deferred} {E E' : Env} {L L' : List HP} {d : Nat} {ty : TypeId} {pos : String} {af : Array Edge} {s : St}

theorem thenS_normal (h : K s) : thenS K Q .normal s := h
theorem thenS_ret (h : Q .ret s) : thenS K Q .ret s := h
theorem thenS_exit {id : Nat} (h : Q (.exit id) s) : thenS K Q (.exit id) s := h
theorem inB_normal {id : Nat} (h : Q .normal s) : inB id Q .normal s := h
theorem inB_ret {id : Nat} (h : Q .ret s) : inB id Q .ret s := h
theorem inB_hit {id : Nat} (h : Q .normal s) : inB id Q (.exit id) s := by simpa [inB] using h
theorem inB_miss {i id : Nat} (hi : Nat.beq i id = false) (h : Q (.exit i) s) : inB id Q (.exit i) s := by
  have : i ≠ id := fun e => by subst e; simp at hi
  simpa [inB, this] using h
theorem sub_nil : ∀ i v, look [] i = some v → look E i = some v := fun _ _ h => by cases h
theorem sub_cons {j : Nat} {u : Value} (h : look E j = some u) (hs : ∀ i v, look E' i = some v → look E i = some v) : ∀ i v, look ((j, u) :: E') i = some v → look E i = some v := fun i v hv => by
  simp only [look] at hv
  cases e : Nat.beq j i with
  | true =>
    rw [e] at hv
    simp only [cond_true, Option.some.injEq] at hv
    have : j = i := Nat.eq_of_beq_eq_true e
    subst this; subst hv
    exact h
  | false => rw [e] at hv; exact hs i v hv
theorem holds_to (hE : ∀ i v, look E' i = some v → look E i = some v) (hg : Gives L L') : ∀ W a w, Holds n W ⟨D, E, L⟩ a w → Holds n W ⟨D, E', L'⟩ a w := fun W a w hh => ⟨hh.1.less hE, hh.2.gives hg⟩
theorem T_less {c : Code} (hE : ∀ i v, look E' i = some v → look E i = some v) (hg : Gives L L') (h : T r n P c ⟨D, E', L'⟩ Q) : T r n P c ⟨D, E, L⟩ Q := fun W a w hh => h W a w ⟨hh.1.less hE, hh.2.gives hg⟩
/-- p is found among L; R: all else. -/
class FindHP (L : List HP) (p : HP) (R : outParam (List HP)) : Prop where
  g : Gives L (p :: R)
instance findHP_tail {p q : HP} {L R : List HP} [h : FindHP L p R] : FindHP (q :: L) p (q :: R) := ⟨(Gives.cons q h.g).trans (Gives.swap q p R)⟩
instance findHP_head {p : HP} {L : List HP} : FindHP (p :: L) p L := ⟨Gives.refl _⟩
class GivesTo (L L' : List HP) : Prop where
  g : Gives L L'
instance (priority := 10) givesTo_drop {p : HP} {L L' : List HP} [k : GivesTo L L'] : GivesTo (p :: L) L' := ⟨fun M m ⟨h1, h2, hd, l1, l2, hp, hs⟩ => k.g M m (Sep.mono (Mem.le_refl _) l2 hs)⟩
instance givesTo_cons {p : HP} {L L1 L' : List HP} [h : FindHP L p L1] [k : GivesTo L1 L'] : GivesTo L (p :: L') := ⟨h.g.trans (Gives.cons p k.g)⟩
instance givesTo_nil {L : List HP} : GivesTo L [] := ⟨Gives.nil L⟩
instance givesTo_refl {L : List HP} : GivesTo L L := ⟨Gives.refl L⟩
/-- Ways come together: y tells the state behind x. -/
theorem T_seq_cut {σ : Type} (I : σ → Prop) (S : σ → St) {x c : Code} (h1 : T r n P x s (thenS (fun s' => ∃ y, I y ∧ ∀ W a w, Holds n W s' a w → Holds n W (S y) a w) Q)) (h2 : ∀ y, I y → T r n P c (S y) Q) : T r n P (.seq x c) s Q := by
  refine T_seq (T.mono h1 fun e s' h => ?_)
  cases e <;> simp only [thenS] at h ⊢
  case normal =>
    obtain ⟨y, hy, hS⟩ := h
    exact fun W a w hh => h2 y hy W a w (hS W a w hh)
  all_goals exact h
theorem TL_cut {σ : Type} (I : σ → Prop) (S : σ → St) {l1 l2 : List Oper} (h1 : TL r n P ops l1 s (fun s' => ∃ y, I y ∧ ∀ W a w, Holds n W s' a w → Holds n W (S y) a w)) (h2 : ∀ y, I y → TL r n P ops l2 (S y) K) : TL r n P ops (l1 ++ l2) s K := fun W a w hh => by
  have key : ∀ (l1 : List Oper) (a : Act) (w : World), wpListIn (Fw r) 0 P ops (fun e a' w' => e = .normal ∧ ∃ s', (∃ y, I y ∧ ∀ W a w, Holds n W s' a w → Holds n W (S y) a w) ∧ Holds n W s' a' w') l1 a w →
      wpListIn (Fw r) 0 P ops (fun e a' w' => e = .normal ∧ ∃ s', K s' ∧ Holds n W s' a' w') (l1 ++ l2) a w := by
    intro l1
    induction l1 with
    | nil =>
      rintro a w ⟨_, s', ⟨y, hy, hS⟩, hh⟩
      exact h2 y hy W a w (hS W a w hh)
    | cons o l1 ih =>
      intro a w h
      simp only [wpListIn, List.cons_append] at h ⊢
      split
      · rename_i hw
        rw [if_pos hw] at h
        exact ⟨h.1, uponIn_mono ih (fun c a w h => by cases h.1) (fun ⟨_, _, h⟩ => by cases h.1) _ h.2⟩
      · rename_i hw
        rw [if_neg hw] at h
        exact ⟨h.1, ih _ _ h.2⟩
  exact key l1 a w (h1 W a w hh)
theorem TL_less (hE : ∀ i v, look E' i = some v → look E i = some v) (hg : Gives L L') (h : TL r n P ops rest ⟨D, E', L'⟩ K) : TL r n P ops rest ⟨D, E, L⟩ K := fun W a w hh => h W a w ⟨hh.1.less hE, hh.2.gives hg⟩
/-- A term of the call's result is given a name. -/
theorem Fn.cases_ {f : FuncId} {args : Array Value} {Φ Ψ : Value → List HP → Prop} (h : Fn P f args L Φ) (k : ∀ v L', Φ v L' → Ψ v L') : Fn P f args L Ψ := fun W w hh =>
  (h W w hh).mono fun e w' ⟨v, L1, he, hΦ, hs⟩ => ⟨v, L1, he, k v L1 hΦ, hs⟩

/-! ### More operations that compute -/
section
variable {x y : Operand} {t t' : TypeId} {a b : ByteArray}
theorem toList_eq {a b : ByteArray} : (a.toList == b.toList) = decide (a = b) := by
  rw [Lib.toList_data, Lib.toList_data]
  by_cases h : a = b
  · subst h; simp
  · have : a.data.toList ≠ b.data.toList := fun e => h (by
      cases a; cases b
      congr 1
      exact Array.ext' e)
    rw [decide_eq_false h]; exact beq_false_of_ne this
theorem beq_dec {p q : ByteArray} : (p == q) = decide (p = q) := by
  have e : (p == q) = (p.data == q.data) := rfl
  rw [e]
  by_cases h : p = q
  · subst h; simp
  · rw [decide_eq_false h]; exact beq_eq_false_iff_ne.2 fun e => h (by cases p; cases q; exact congrArg _ e)
/-- Two values of type t: whether they are equal. -/
def EqIs (P : Program) (t : TypeId) (u v : Value) (b : Bool) : Prop := ∀ d w, (Op.equalIn (d + 1) t u v).run P w = .ok b w
/-- Two values that the program compares by their type. -/
class EqBy (u v : Value) : Prop where
  e : ∀ t, binOp .eql t u v = (do Pure.pure (Value.bool (← Op.equal t u v)) : Sem Value)
  n : ∀ t, binOp .neq t u v = (do Pure.pure (Value.bool (!(← Op.equal t u v))) : Sem Value)
  g : ∀ op t x y, eqGuard op t x y u v = Pure.pure ()
instance {p q : Bool} : EqBy (.bool p) (.bool q) := ⟨fun t => by simp only [binOp], fun t => by simp only [binOp], fun op t x y => by cases op <;> rfl⟩
instance {p q : Option Addr} {k c k' c' : Nat} : EqBy (.slice p k c) (.slice q k' c') := ⟨fun t => by simp only [binOp], fun t => by simp only [binOp], fun op t x y => by cases op <;> rfl⟩
instance {p q : Option Addr} : EqBy (.pointer p) (.pointer q) := ⟨fun t => by simp only [binOp], fun t => by simp only [binOp], fun op t x y => by cases op <;> rfl⟩
instance {p q : Option _} : EqBy (.map p) (.map q) := ⟨fun t => by simp only [binOp], fun t => by simp only [binOp], fun op t x y => by cases op <;> rfl⟩
section
variable {x y : Operand} {t t' : TypeId} {u v : Value} {b : Bool}
theorem EqIs.equal (h : EqIs P t u v b) (w : World) : (Op.equal t u v).run P w = .ok b w := h 9999 w
theorem Y_equal [hb : EqBy u v] (hx : ev E x = some u) (hy : ev E y = some v) (h : EqIs P t u v b) : Yl P E L (.binOp .eql t x y t') ty (.bool b) := fun n D W ac w dst pos af g ha hs => by
  simp [execOp, ha.ev hx, ha.ev hy, hb.g, hb.e, h.equal]
theorem Y_unequal [hb : EqBy u v] (hx : ev E x = some u) (hy : ev E y = some v) (h : EqIs P t u v b) : Yl P E L (.binOp .neq t x y t') ty (.bool (!b)) := fun n D W ac w dst pos af g ha hs => by
  simp [execOp, ha.ev hx, ha.ev hy, hb.g, hb.n, h.equal]
theorem EqIs.bool [ht : TyDesc P t .bool] {p q : Bool} : EqIs P t (.bool p) (.bool q) (p == q) := fun d w => by simp [Op.equalIn, ht.run]
theorem EqIs.str [ht : TyDesc P t .string] {p q : ByteArray} : EqIs P t (.string p) (.string q) (decide (p = q)) := fun d w => by simp [Op.equalIn, ht.run]; exact beq_dec
theorem EqIs.int {k : IntKind} [ht : TyDesc P t (.int k)] {p q : Int} : EqIs P t (.int k p) (.int k q) (decide (p = q)) := fun d w => by
  simp [Op.equalIn, ht.run]; rfl
theorem EqIs.slice_nil {e : TypeId} [ht : TyDesc P t (.slice e)] {A : Option Addr} {k c k' c' : Nat} : EqIs P t (.slice A k c) (.slice none k' c') (decide (A = none)) := fun d w => by
  cases A <;> simp [Op.equalIn, ht.run]
theorem EqIs.nil_slice {e : TypeId} [ht : TyDesc P t (.slice e)] {A : Option Addr} {k c k' c' : Nat} : EqIs P t (.slice none k' c') (.slice A k c) (decide (A = none)) := fun d w => by
  cases A <;> simp [Op.equalIn, ht.run]
theorem EqIs.ptr_nil {e : TypeId} [ht : TyDesc P t (.pointer e)] {A : Option Addr} : EqIs P t (.pointer A) (.pointer none) (decide (A = none)) := fun d w => by
  cases A <;> simp [Op.equalIn, ht.run]
theorem EqIs.nil_ptr {e : TypeId} [ht : TyDesc P t (.pointer e)] {A : Option Addr} : EqIs P t (.pointer none) (.pointer A) (decide (A = none)) := fun d w => by
  cases A <;> simp [Op.equalIn, ht.run]
end
theorem Y_str_eq (hx : ev E x = some (.string a)) (hy : ev E y = some (.string b)) : Yl P E L (.binOp .eql t x y t') ty (.bool (decide (a = b))) := fun n D W ac w dst pos af g ha hs => by
  simp only [execOp, ha.ev hx, ha.ev hy, eqGuard, Go.binOp, Op.stringOp, toList_eq]; rfl
theorem Y_str_ne (hx : ev E x = some (.string a)) (hy : ev E y = some (.string b)) : Yl P E L (.binOp .neq t x y t') ty (.bool (decide (a ≠ b))) := fun n D W ac w dst pos af g ha hs => by
  simp only [execOp, ha.ev hx, ha.ev hy, eqGuard, Go.binOp, Op.stringOp, toList_eq, decide_not]; rfl
theorem Y_str_lt (hx : ev E x = some (.string a)) (hy : ev E y = some (.string b)) : Yl P E L (.binOp .lss t x y t') ty (.bool (Op.bytesLess a.toList b.toList)) := fun n D W ac w dst pos af g ha hs => by
  simp only [execOp, ha.ev hx, ha.ev hy, eqGuard, Go.binOp, Op.stringOp]; rfl
end
theorem Y_min {x y : Operand} {t t' : TypeId} {k : IntKind} {a b : Int} (hx : ev E x = some (.int k a)) (hy : ev E y = some (.int k b)) : Yl P E L (.call { callee := .builtin .min, args := #[x, y], argTypes := #[t, t'] }) ty (.int k (min a b)) := fun n D W ac w dst pos af g ha hs => by
  have e : (if b < a then b else a) = min a b := by omega
  simp [execOp, resolve, invoke, builtin, ha.ev hx, ha.ev hy, Builtin.min_, Builtin.min2, e]
end
end Go.SL
