/- What the laws of this claim need, together: the logic, data in memory, the walks of functions. -/
import Derived.OrdersIn
import Derived.TacticsIn
import Derived.CallsIn
import Derived.Tactics
import Derived.Maps.AppendAt
import Derived.Laws.World
import Derived.IntWalk
import Derived.Laws.Cells
import Derived.Laws.CopyRow
import Derived.Lib.AppendStr
import Derived.Laws.BytesArg
import Derived.Lib.ConvBytes
import Derived.Test.YtajdgepnmbonaaaProg
import Derived.KernelRfl
import Derived.Lib.Strings
import Derived.Laws.OwnMore
set_option linter.unusedVariables false
set_option linter.unusedSimpArgs false
set_option linter.unusedVariables false
set_option linter.unusedSimpArgs false
namespace Go.SL
open Go

/-! ### Heaps and assertions -/
abbrev Mem := Nat → Option Obj
def Mem.le (M N : Mem) : Prop := ∀ b x, M b = some x → N b = some x
def Mem.disj (M N : Mem) : Prop := ∀ b, M b = none ∨ N b = none
def heapOf (w : World) : Mem := fun b => w.heap[b]?
theorem Mem.le_refl (M : Mem) : M.le M := fun _ _ h => h
theorem Mem.le_trans {A B C : Mem} (h : A.le B) (k : B.le C) : A.le C := fun b x hx => k b x (h b x hx)
theorem Mem.disj_le {A B A' B' : Mem} (h : A.disj B) (ha : A'.le A) (hb : B'.le B) : A'.disj B' := fun b => by
  rcases h b with h | h
  · left
    cases hx : A' b with
    | none => rfl
    | some x => rw [ha b x hx] at h; cases h
  · right
    cases hx : B' b with
    | none => rfl
    | some x => rw [hb b x hx] at h; cases h
theorem Mem.disj_symm {A B : Mem} (h : A.disj B) : B.disj A := fun b => (h b).symm
def Mem.join (A B : Mem) : Mem := fun b => match A b with | some x => some x | none => B b
theorem Mem.le_join_left (A B : Mem) : A.le (A.join B) := fun b x h => by simp [Mem.join, h]
theorem Mem.le_join_right {A B : Mem} (hd : A.disj B) : B.le (A.join B) := fun b x h => by
  rcases hd b with ha | hb
  · simp [Mem.join, ha, h]
  · rw [h] at hb; cases hb
theorem Mem.join_le {A B C : Mem} (ha : A.le C) (hb : B.le C) : (A.join B).le C := fun b x h => by
  unfold Mem.join at h
  cases hA : A b with
  | some y => rw [hA] at h; exact ha b x (by rw [hA]; exact h)
  | none => rw [hA] at h; exact hb b x h
theorem Mem.join_disj {A B C : Mem} (ha : A.disj C) (hb : B.disj C) : (A.join B).disj C := fun b => by
  rcases ha b with h | h
  · rcases hb b with k | k
    · left; simp [Mem.join, h, k]
    · exact .inr k
  · exact .inr h
def Mem.emp : Mem := fun _ => none
def Mem.one (b : Nat) (x : Obj) : Mem := fun i => if i = b then some x else none
theorem Mem.emp_le (M : Mem) : Mem.emp.le M := fun _ _ h => by cases h
theorem Mem.emp_disj (M : Mem) : Mem.emp.disj M := fun _ => .inl rfl
theorem Mem.one_self (b : Nat) (x : Obj) : Mem.one b x b = some x := by simp [Mem.one]
theorem Mem.one_le {b : Nat} {x : Obj} {M : Mem} (h : M b = some x) : (Mem.one b x).le M := fun i y hy => by
  unfold Mem.one at hy
  split at hy
  · rename_i e; subst e; cases hy; exact h
  · cases hy

/-- An assertion on what nobody writes any more (first) and on what is owned (second). -/
structure HP where
  holds : Mem → Mem → Prop
  mono : ∀ {M N h k : Mem}, M.le N → h.le k → holds M h → holds N k

def Sep : List HP → Mem → Mem → Prop
  | [], _, _ => True
  | p :: ps, M, h => ∃ h1 h2, h1.disj h2 ∧ h1.le h ∧ h2.le h ∧ p.holds M h1 ∧ Sep ps M h2
theorem Sep.mono {L : List HP} : ∀ {M N h k : Mem}, M.le N → h.le k → Sep L M h → Sep L N k := by
  induction L with
  | nil => intro M N h k _ _ _; trivial
  | cons p ps ih =>
    rintro M N h k hM hh ⟨h1, h2, hd, l1, l2, hp, hs⟩
    exact ⟨h1, h2, hd, (Mem.le_trans l1 hh), (Mem.le_trans l2 hh), p.mono hM (Mem.le_refl _) hp, ih hM (Mem.le_refl _) hs⟩

structure Sat (o w : World) (L : List HP) : Prop where
  ex : ∃ M h, M.disj h ∧ M.le (heapOf w) ∧ h.le (heapOf w) ∧ Sep L M h
  os : w.os = o.os
  tape : w.tape = o.tape
  output : w.output = o.output
  size : o.heap.size ≤ w.heap.size

/-- What is true of all states of L follows. -/
theorem Sat.weaken {o w : World} {L L' : List HP} (h : Sat o w L) (hl : ∀ M k, Sep L M k → Sep L' M k) : Sat o w L' :=
  ⟨let ⟨M, k, a, b, c, d⟩ := h.ex; ⟨M, k, a, b, c, hl M k d⟩, h.os, h.tape, h.output, h.size⟩

/-- L' can be had of L. -/
def Gives (L L' : List HP) : Prop := ∀ M k, Sep L M k → Sep L' M k
theorem Gives.refl (L : List HP) : Gives L L := fun _ _ h => h
theorem Gives.trans {A B C : List HP} (h : Gives A B) (k : Gives B C) : Gives A C := fun M m x => k M m (h M m x)
theorem Gives.cons {L L' : List HP} (p : HP) (h : Gives L L') : Gives (p :: L) (p :: L') := fun M k ⟨h1, h2, hd, l1, l2, hp, hs⟩ => ⟨h1, h2, hd, l1, l2, hp, h M h2 hs⟩
theorem Gives.drop (p : HP) (L : List HP) : Gives (p :: L) L := fun M k ⟨h1, h2, hd, l1, l2, hp, hs⟩ => Sep.mono (Mem.le_refl _) l2 hs
theorem Gives.nil (L : List HP) : Gives L [] := fun _ _ _ => trivial
theorem Gives.swap (p q : HP) (L : List HP) : Gives (p :: q :: L) (q :: p :: L) := by
  rintro M k ⟨h1, h2, hd, l1, l2, hp, h3, h4, hd', l3, l4, hq, hs⟩
  refine ⟨h3, h1.join h4, ?_, (Mem.le_trans l3 l2), Mem.join_le l1 (Mem.le_trans l4 l2), hq, h1, h4, ?_, Mem.le_join_left _ _, ?_, hp, hs⟩
  · exact Mem.disj_symm (Mem.join_disj (Mem.disj_le hd (Mem.le_refl _) l3) (Mem.disj_symm hd'))
  · exact Mem.disj_le hd (Mem.le_refl _) l4
  · exact Mem.le_join_right (Mem.disj_le hd (Mem.le_refl _) l4)
/-- Number k comes to the front. -/
def pull : Nat → List HP → List HP
  | _, [] => []
  | 0, L => L
  | k + 1, p :: L => match pull k L with
    | [] => [p]
    | q :: R => q :: p :: R
theorem Gives.pull : ∀ (k : Nat) (L : List HP), Gives L (SL.pull k L)
  | _, [] => by
    intro M h _
    cases ‹Nat› <;> trivial
  | 0, p :: L => Gives.refl _
  | k + 1, p :: L => by
    have ih := Gives.pull k L
    simp only [SL.pull]
    cases e : SL.pull k L with
    | nil => rw [e] at ih; exact Gives.cons p ih
    | cons q R => rw [e] at ih; exact (Gives.cons p ih).trans (Gives.swap p q R)

/-- An assertion that says nothing on what is owned. -/
def pers (φ : Mem → Prop) (hm : ∀ {M N : Mem}, M.le N → φ M → φ N) : HP := ⟨fun M _ => φ M, fun hM _ h => hm hM h⟩
def pure (p : Prop) : HP := ⟨fun _ _ => p, fun _ _ h => h⟩
/-- Block b is x, nobody writes it any more. -/
def imm (b : Nat) (x : Obj) : HP := ⟨fun M _ => M b = some x, fun hM _ h => hM _ _ h⟩
/-- Block b is x, and is ours. -/
def own (b : Nat) (x : Obj) : HP := ⟨fun _ h => h b = some x, fun _ hh h => hh _ _ h⟩
/-- All of M0 lies as it lay. -/
def base (M0 : Mem) : HP := ⟨fun M _ => M0.le M, fun hM _ h => (Mem.le_trans h hM)⟩
/-- φ is known in all states of L. -/
def Knows (L : List HP) (φ : Mem → Prop) : Prop := ∀ M h, Sep L M h → φ M
theorem Knows.mono {L : List HP} {φ ψ : Mem → Prop} (h : Knows L φ) (k : ∀ M, φ M → ψ M) : Knows L ψ := fun M m x => k M (h M m x)
theorem Knows.and {L : List HP} {φ ψ : Mem → Prop} (h : Knows L φ) (k : Knows L ψ) : Knows L (fun M => φ M ∧ ψ M) := fun M m x => ⟨h M m x, k M m x⟩
theorem Knows.const {L : List HP} {φ : Mem → Prop} (h : ∀ M, φ M) : Knows L φ := fun M _ _ => h M
theorem Knows.tail {p : HP} {L : List HP} {φ : Mem → Prop} (h : Knows L φ) : Knows (p :: L) φ := fun M m x => h M m (Gives.drop p L M m x)
theorem Knows.head {L : List HP} {φ : Mem → Prop} {hm : ∀ {M N : Mem}, M.le N → φ M → φ N} : Knows (pers φ hm :: L) φ := fun M m ⟨_, _, _, _, _, hp, _⟩ => hp
theorem Knows.of_gives {L L' : List HP} {φ : Mem → Prop} (g : Gives L L') (h : Knows L' φ) : Knows L φ := fun M m x => h M m (g M m x)
/-- What is known may be laid beside. -/
theorem Knows.lay {L : List HP} {φ : Mem → Prop} {hm : ∀ {M N : Mem}, M.le N → φ M → φ N} (h : Knows L φ) : Gives L (pers φ hm :: L) := fun M m x =>
  ⟨Mem.emp, m, Mem.emp_disj _, Mem.emp_le _, Mem.le_refl _, h M m x, x⟩
theorem Gives.pure_intro {L : List HP} {p : Prop} (h : p) : Gives L (pure p :: L) := fun M m x => ⟨Mem.emp, m, Mem.emp_disj _, Mem.emp_le _, Mem.le_refl _, h, x⟩

/-- An assertion on what nobody writes may be doubled. -/
class Pers (p : HP) : Prop where
  emp : ∀ M h, p.holds M h → p.holds M Mem.emp
instance {φ : Mem → Prop} {hm : ∀ {M N : Mem}, M.le N → φ M → φ N} : Pers (pers φ hm) := ⟨fun _ _ h => h⟩
instance {p : Prop} : Pers (pure p) := ⟨fun _ _ h => h⟩
instance {b : Nat} {x : Obj} : Pers (imm b x) := ⟨fun _ _ h => h⟩
instance {M0 : Mem} : Pers (base M0) := ⟨fun _ _ h => h⟩
theorem Gives.dup (p : HP) [Pers p] (L : List HP) : Gives (p :: L) (p :: p :: L) := fun M m ⟨h1, h2, hd, l1, l2, hp, hs⟩ =>
  ⟨Mem.emp, m, Mem.emp_disj _, Mem.emp_le _, Mem.le_refl _, Pers.emp _ _ hp, h1, h2, hd, l1, l2, hp, hs⟩
/-- p is among L (and may be doubled). -/
def Has (L : List HP) (p : HP) : Prop := Gives L (p :: L)
theorem Has.head (p : HP) [Pers p] (L : List HP) : Has (p :: L) p := Gives.dup p L
theorem Has.tail {p q : HP} {L : List HP} (h : Has L p) : Has (q :: L) p := (Gives.cons q h).trans (Gives.swap q p L)
theorem Has.knows {L : List HP} {φ : Mem → Prop} {hm : ∀ {M N : Mem}, M.le N → φ M → φ N} (h : Has L (pers φ hm)) : Knows L φ := fun M m x => by
  obtain ⟨_, _, _, _, _, hp, _⟩ := h M m x
  exact hp
theorem Knows.has {L : List HP} {φ : Mem → Prop} {hm : ∀ {M N : Mem}, M.le N → φ M → φ N} (h : Knows L φ) : Has L (pers φ hm) := Knows.lay h

/-! ### A step of the world -/
theorem Sat.gives {o w : World} {L L' : List HP} (h : Sat o w L) (g : Gives L L') : Sat o w L' := h.weaken g
/-- A new block. -/
theorem Sat.alloc {o w : World} {L : List HP} (h : Sat o w L) (x : Obj) : Sat o (w.alloc x) (own w.heap.size x :: L) := by
  obtain ⟨M, k, hd, hM, hk, hs⟩ := h.ex
  have hnew : ∀ {N : Mem}, N.le (heapOf w) → N w.heap.size = none := by
    intro N hN
    cases e : N w.heap.size with
    | none => rfl
    | some y =>
      have := hN _ _ e
      simp [heapOf] at this
  have hold : (heapOf w).le (heapOf (w.alloc x)) := fun b y hy => by
    have hy' : w.heap[b]? = some y := hy
    have := (Array.getElem?_eq_some_iff.1 hy').1
    show (w.heap.push x)[b]? = some y
    rw [Array.getElem?_push, if_neg (by omega)]
    exact hy'
  have hone : (Mem.one w.heap.size x).le (heapOf (w.alloc x)) := Mem.one_le (by show (w.heap.push x)[w.heap.size]? = some x; simp)
  have hdk : (Mem.one w.heap.size x).disj k := fun b => by
    by_cases e : b = w.heap.size
    · subst e; exact .inr (hnew hk)
    · left; simp [Mem.one, e]
  refine ⟨⟨M, (Mem.one w.heap.size x).join k, ?_, (Mem.le_trans hM hold), Mem.join_le hone (Mem.le_trans hk hold), Mem.one w.heap.size x, k, hdk, Mem.le_join_left _ _, Mem.le_join_right hdk, Mem.one_self _ _, hs⟩, h.os, h.tape, h.output, ?_⟩
  · refine Mem.disj_symm (Mem.join_disj ?_ (Mem.disj_symm hd))
    intro b
    by_cases e : b = w.heap.size
    · subst e; exact .inr (hnew hM)
    · left; simp [Mem.one, e]
  · have := h.size
    show o.heap.size ≤ (w.heap.push x).size
    simp
    omega
/-- A new block, laid however. -/
theorem Sat.new {o w w' : World} {L : List HP} {x : Obj} (h : Sat o w L) (hb : w'.heap[w.heap.size]? = some x) (hold' : ∀ i, i < w.heap.size → w'.heap[i]? = w.heap[i]?) (hos : w'.os = w.os) (htape : w'.tape = w.tape) (hout : w'.output = w.output) (hsz : w.heap.size ≤ w'.heap.size) : Sat o w' (own w.heap.size x :: L) := by
  obtain ⟨M, k, hd, hM, hk, hs⟩ := h.ex
  have hnew : ∀ {N : Mem}, N.le (heapOf w) → N w.heap.size = none := by
    intro N hN
    cases e : N w.heap.size with
    | none => rfl
    | some y =>
      have := hN _ _ e
      simp [heapOf] at this
  have hold : (heapOf w).le (heapOf w') := fun b y hy => by
    have hy' : w.heap[b]? = some y := hy
    have := (Array.getElem?_eq_some_iff.1 hy').1
    show w'.heap[b]? = some y
    rw [hold' b this]
    exact hy'
  have hone : (Mem.one w.heap.size x).le (heapOf w') := Mem.one_le hb
  have hdk : (Mem.one w.heap.size x).disj k := fun b => by
    by_cases e : b = w.heap.size
    · subst e; exact .inr (hnew hk)
    · left; simp [Mem.one, e]
  refine ⟨⟨M, (Mem.one w.heap.size x).join k, ?_, (Mem.le_trans hM hold), Mem.join_le hone (Mem.le_trans hk hold), Mem.one w.heap.size x, k, hdk, Mem.le_join_left _ _, Mem.le_join_right hdk, Mem.one_self _ _, hs⟩, hos.trans h.os, htape.trans h.tape, hout.trans h.output, Nat.le_trans h.size hsz⟩
  refine Mem.disj_symm (Mem.join_disj ?_ (Mem.disj_symm hd))
  intro b
  by_cases e : b = w.heap.size
  · subst e; exact .inr (hnew hM)
  · left; simp [Mem.one, e]
theorem Sat.drew {o w : World} {L : List HP} (h : Sat o w L) : Sat o { w with drawn := w.drawn + 1 } L := ⟨h.ex, h.os, h.tape, h.output, h.size⟩
/-- A block of ours is turned. -/
theorem Sat.set {o w w' : World} {L : List HP} {b : Nat} {x y : Obj} (h : Sat o w (own b x :: L)) (hb : w'.heap[b]? = some y) (hr : ∀ i, i ≠ b → w'.heap[i]? = w.heap[i]?)
    (hos : w'.os = w.os) (htape : w'.tape = w.tape) (hout : w'.output = w.output) (hsz : w.heap.size ≤ w'.heap.size) : Sat o w' (own b y :: L) := by
  obtain ⟨M, k, hd, hM, hk, h1, h2, hd', l1, l2, hp, hs⟩ := h.ex
  have hkb : k b = some x := l1 _ _ hp
  have hMb : M b = none := by
    rcases hd b with e | e
    · exact e
    · rw [hkb] at e; cases e
  have h2b : h2 b = none := by
    rcases hd' b with e | e
    · rw [hp] at e; cases e
    · exact e
  have hnb : ∀ {N : Mem}, N b = none → N.le (heapOf w) → N.le (heapOf w') := fun {N} e hN i z hz => by
    have hne : i ≠ b := by rintro rfl; rw [e] at hz; cases hz
    show w'.heap[i]? = some z
    rw [hr i hne]
    exact hN i z hz
  have hdk : (Mem.one b y).disj h2 := fun i => by
    by_cases e : i = b
    · subst e; exact .inr h2b
    · left; simp [Mem.one, e]
  refine ⟨⟨M, (Mem.one b y).join h2, ?_, hnb hMb hM, Mem.join_le (Mem.one_le hb) (hnb h2b (Mem.le_trans l2 hk)), Mem.one b y, h2, hdk, Mem.le_join_left _ _, Mem.le_join_right hdk, Mem.one_self _ _, hs⟩, hos.trans h.os, htape.trans h.tape, hout.trans h.output, Nat.le_trans h.size hsz⟩
  refine Mem.disj_symm (Mem.join_disj ?_ (Mem.disj_symm (Mem.disj_le hd (Mem.le_refl _) l2)))
  intro i
  by_cases e : i = b
  · subst e; exact .inr hMb
  · left; simp [Mem.one, e]
theorem Sat.own_at {o w : World} {L : List HP} {b : Nat} {x : Obj} (h : Sat o w (own b x :: L)) : w.heap[b]? = some x := by
  obtain ⟨M, k, hd, hM, hk, h1, h2, hd', l1, l2, hp, hs⟩ := h.ex
  exact hk _ _ (l1 _ _ hp)
theorem Sat.knows {o w : World} {L : List HP} {φ : Mem → Prop} (h : Sat o w L) (k : Knows L φ) : ∃ M : Mem, M.le (heapOf w) ∧ φ M := by
  obtain ⟨M, m, hd, hM, hk, hs⟩ := h.ex
  exact ⟨M, hM, k M m hs⟩
/-- Nobody shall write a block of ours any more. -/
theorem Sat.freeze {o w : World} {L : List HP} {b : Nat} {x : Obj} (h : Sat o w (own b x :: L)) : Sat o w (imm b x :: L) := by
  obtain ⟨M, k, hd, hM, hk, h1, h2, hd', l1, l2, hp, hs⟩ := h.ex
  have hkb : k b = some x := l1 _ _ hp
  have hMb : M b = none := by
    rcases hd b with e | e
    · exact e
    · rw [hkb] at e; cases e
  have h2b : h2 b = none := by
    rcases hd' b with e | e
    · rw [hp] at e; cases e
    · exact e
  have hd1 : (Mem.one b x).disj M := fun i => by
    by_cases e : i = b
    · subst e; exact .inr hMb
    · left; simp [Mem.one, e]
  refine ⟨⟨(Mem.one b x).join M, h2, Mem.join_disj ?_ (Mem.disj_le hd (Mem.le_refl _) l2), Mem.join_le (Mem.one_le (hk _ _ hkb)) hM, (Mem.le_trans l2 hk), Mem.emp, h2, Mem.emp_disj _, Mem.emp_le _, Mem.le_refl _, Mem.le_join_left _ _ _ _ (Mem.one_self _ _), Sep.mono (Mem.le_join_right hd1) (Mem.le_refl _) hs⟩, h.os, h.tape, h.output, h.size⟩
  intro i
  by_cases e : i = b
  · subst e; exact .inr h2b
  · left; simp [Mem.one, e]

/-! ### Symbolic states -/
abbrev Env := List (Nat × Value)
def look : Env → Nat → Option Value
  | [], _ => none
  | (i, v) :: E, j => bif Nat.beq i j then some v else look E j
def ev (E : Env) : Operand → Option Value
  | .tmp t => look E t
  | .const v => some v
  | .global g => some (.pointer (some ⟨g, 0, none⟩))
  | .func f => some (.func (.func f) #[] #[])
def evl (E : Env) : List Operand → Option (List Value)
  | [] => some []
  | x :: xs => match ev E x, evl E xs with
    | some v, some vs => some (v :: vs)
    | _, _ => none
structure View (n : Nat) (D : List Deferred) (a : Act) (E : Env) : Prop where
  size : a.tmps.size = n
  defers : a.defers = D
  get : ∀ i v, look E i = some v → a.tmps[i]? = some v
theorem View.put {n : Nat} {D : List Deferred} {a : Act} {E : Env} (h : View n D a E) {d : Nat} (hd : d < n) (v : Value) : View n D (a.put (some d) v) ((d, v) :: E) := by
  refine ⟨by simp [Act.put, h.size], h.defers, fun i u hu => ?_⟩
  simp only [look] at hu
  cases e : Nat.beq d i with
  | true =>
    rw [e] at hu
    simp only [cond_true, Option.some.injEq] at hu
    have : d = i := Nat.eq_of_beq_eq_true e
    subst this; subst hu
    simp [Act.put, h.size, hd]
  | false =>
    rw [e] at hu
    simp only [cond_false] at hu
    have hne : d ≠ i := fun e' => by subst e'; simp at e
    simp only [Act.put]
    rw [Array.getElem?_setIfInBounds_ne hne]
    exact h.get i u hu
theorem View.ev {n : Nat} {D : List Deferred} {a : Act} {E : Env} (h : View n D a E) {x : Operand} {v : Value} (hx : SL.ev E x = some v) : a.eval x = v := by
  cases x with
  | tmp t =>
    have := h.get t v hx
    simp [Act.eval, this]
  | const u => simp [SL.ev] at hx; simp [Act.eval, hx]
  | «global» g => simp [SL.ev] at hx; simp [Act.eval, hx]
  | func f => simp [SL.ev] at hx; simp [Act.eval, hx]
theorem View.evl {n : Nat} {D : List Deferred} {a : Act} {E : Env} (h : View n D a E) : ∀ {xs : List Operand} {vs : List Value}, SL.evl E xs = some vs → xs.map a.eval = vs
  | [], vs, hx => by simp [SL.evl] at hx; simp [hx]
  | x :: xs, vs, hx => by
    simp only [SL.evl] at hx
    cases e1 : SL.ev E x with
    | none => rw [e1] at hx; cases hx
    | some v =>
      cases e2 : SL.evl E xs with
      | none => rw [e1, e2] at hx; cases hx
      | some us =>
        rw [e1, e2] at hx
        cases hx
        simp [h.ev e1, View.evl h e2]
theorem View.less {n : Nat} {D : List Deferred} {a : Act} {E E' : Env} (h : View n D a E) (hE : ∀ i v, look E' i = some v → look E i = some v) : View n D a E' :=
  ⟨h.size, h.defers, fun i v hv => h.get i v (hE i v hv)⟩

structure St where
  D : List Deferred
  E : Env
  L : List HP
def Holds (n : Nat) (o : World) (s : St) (a : Act) (w : World) : Prop := View n s.D a s.E ∧ Sat o w s.L

abbrev Fw (r : Option Nat) : Fence := { fn := fun _ => True, depth := none, alive := false, round := r }

/-- From any state that s tells, c comes to an end that Q tells. -/
def T (r : Option Nat) (n : Nat) (P : Program) (c : Code) (s : St) (Q : Exit → St → Prop) : Prop :=
  ∀ o a w, Holds n o s a w → c.wpIn (Fw r) 0 P (fun e a' w' => ∃ s', Q e s' ∧ Holds n o s' a' w') a w
def TL (r : Option Nat) (n : Nat) (P : Program) (ops : Array Oper) (l : List Oper) (s : St) (K : St → Prop) : Prop :=
  ∀ o a w, Holds n o s a w → wpListIn (Fw r) 0 P ops (fun e a' w' => e = .normal ∧ ∃ s', K s' ∧ Holds n o s' a' w') l a w
/-- The function, called so, returns what Φ tells. -/
def Fn (P : Program) (f : FuncId) (args : Array Value) (L : List HP) (Φ : Value → List HP → Prop) : Prop :=
  ∀ o w, Sat o w L → Calls P f args w fun e w' => ∃ v L', e = .returned v ∧ Φ v L' ∧ Sat o w' L'

/-! ### A weaker end -/
theorem uponIn_mono {F : Fence} {m : Nat} {P : Program} {o : Oper} {a : Act} {N N' : Act → World → Prop} {Q Q' : Exit → Act → World → Prop} (hn : ∀ a w, N a w → N' a w) (hq : ∀ c a w, Q (.panic c) a w → Q' (.panic c) a w) (hout : LetsOut Q → LetsOut Q') (x : Result Next)
    (h : o.uponIn F m P a N Q x) : o.uponIn F m P a N' Q' x := by
  cases x with
  | ok v w =>
    cases v <;> simp only [Oper.uponIn] at h ⊢
    case value => exact hn _ _ h
    case skip => exact hn _ _ h
    case defer => exact hn _ _ h
    case enter => exact ⟨h.1, h.2.mono fun e w' he => by cases e <;> simp only at he ⊢ <;> first | exact hn _ _ he | exact hq _ _ _ he | exact hout he⟩
    case row => exact ⟨h.1, h.2.mono fun v w' he => hn _ _ he⟩
    case round => exact ⟨h.1, h.2.mono fun e w' he => by cases e <;> simp only at he ⊢ <;> first | exact hn _ _ he | exact hq _ _ _ he | exact hout he⟩
  | halt x w => cases x <;> simp only [Oper.uponIn] at h ⊢; exact hq _ _ _ h
theorem wpListIn_mono {F : Fence} {m : Nat} {P : Program} {ops : Array Oper} {Q Q' : Exit → Act → World → Prop} (hq : ∀ e a w, Q e a w → Q' e a w) : ∀ (l : List Oper) (a : Act) (w : World), wpListIn F m P ops Q l a w → wpListIn F m P ops Q' l a w
  | [], a, w, h => hq _ _ _ h
  | o :: rest, a, w, h => by
    simp only [wpListIn] at h ⊢
    split
    · rename_i hw
      rw [if_pos hw] at h
      exact ⟨h.1, uponIn_mono (wpListIn_mono hq rest) (fun c => hq _) (fun ⟨a, w, h⟩ => ⟨a, w, hq _ _ _ h⟩) _ h.2⟩
    · rename_i hw
      rw [if_neg hw] at h
      exact ⟨h.1, wpListIn_mono hq rest _ _ h.2⟩

section
variable {r : Option Nat} {n : Nat} {P : Program} {ops : Array Oper} {rest : List Oper} {o : Oper} {s : St} {K : St → Prop} {Q : Exit → St → Prop} {D : List Deferred} {E : Env} {L L' : List HP}

theorem T.mono {c : Code} {Q' : Exit → St → Prop} (h : T r n P c s Q) (hq : ∀ e s, Q e s → Q' e s) : T r n P c s Q' := fun W a w hh =>
  wpIn_mono (h W a w hh) fun e a' w' ⟨s', q, k⟩ => ⟨s', hq _ _ q, k⟩
theorem Holds.gives {W : World} {a : Act} {w : World} (h : Holds n W ⟨D, E, L⟩ a w) (g : Gives L L') : Holds n W ⟨D, E, L'⟩ a w := ⟨h.1, h.2.gives g⟩
theorem T_gives {c : Code} (g : Gives L L') (h : T r n P c ⟨D, E, L'⟩ Q) : T r n P c ⟨D, E, L⟩ Q := fun W a w hh => h W a w (hh.gives g)
theorem TL_gives (g : Gives L L') (h : TL r n P ops rest ⟨D, E, L'⟩ K) : TL r n P ops rest ⟨D, E, L⟩ K := fun W a w hh => h W a w (hh.gives g)
theorem T_pull {c : Code} (k : Nat) (e : pull k L = L') (h : T r n P c ⟨D, E, L'⟩ Q) : T r n P c ⟨D, E, L⟩ Q := T_gives (by rw [← e]; exact Gives.pull k L) h
/-- A fact that all states of L bear out. -/
theorem TL_fact {φ : Mem → Prop} {p : Prop} (k : Knows L φ) (hp : ∀ M, φ M → p) (h : p → TL r n P ops rest ⟨D, E, L⟩ K) : TL r n P ops rest ⟨D, E, L⟩ K := fun W a w hh => by
  obtain ⟨M, _, hφ⟩ := hh.2.knows k
  exact h (hp M hφ) W a w hh
theorem T_fact {c : Code} {φ : Mem → Prop} {p : Prop} (k : Knows L φ) (hp : ∀ M, φ M → p) (h : p → T r n P c ⟨D, E, L⟩ Q) : T r n P c ⟨D, E, L⟩ Q := fun W a w hh => by
  obtain ⟨M, _, hφ⟩ := hh.2.knows k
  exact h (hp M hφ) W a w hh
theorem Fn_gives {f : FuncId} {args : Array Value} {Φ : Value → List HP → Prop} (g : Gives L L') (h : Fn P f args L' Φ) : Fn P f args L Φ := fun W w hh => h W w (hh.gives g)
theorem Fn.mono {f : FuncId} {args : Array Value} {Φ Ψ : Value → List HP → Prop} (h : Fn P f args L Φ) (k : ∀ v L', Φ v L' → ∃ L'', Gives L' L'' ∧ Ψ v L'') : Fn P f args L Ψ := fun W w hh =>
  (h W w hh).mono fun e w' ⟨v, L1, he, hΦ, hs⟩ => let ⟨L2, g, hΨ⟩ := k v L1 hΦ; ⟨v, L2, he, hΨ, hs.gives g⟩

/-! ### Code -/
theorem T_skip (h : Q .normal s) : T r n P .skip s Q := fun W a w hh => wpIn_skip ⟨s, h, hh⟩
theorem T_ret (h : Q .ret s) : T r n P .ret s Q := fun W a w hh => wpIn_ret ⟨s, h, hh⟩
theorem T_exit {id : Nat} (h : Q (.exit id) s) : T r n P (.exit id) s Q := fun W a w hh => wpIn_exit ⟨s, h, hh⟩
/-- On behind x: K; out of it: Q. -/
def thenS (K : St → Prop) (Q : Exit → St → Prop) : Exit → St → Prop
  | .normal, s => K s
  | e, s => Q e s
theorem T_seq {x y : Code} (h : T r n P x s (thenS (fun s' => T r n P y s' Q) Q)) : T r n P (.seq x y) s Q := fun W a w hh => by
  refine wpIn_seq (wpIn_mono (h W a w hh) ?_)
  rintro e a' w' ⟨s', q, k⟩
  cases e <;> simp only [thenS, Exit.then] at q ⊢
  case normal => exact q W a' w' k
  all_goals exact ⟨s', q, k⟩
def inB (id : Nat) (Q : Exit → St → Prop) : Exit → St → Prop
  | .exit i, s => if i = id then Q .normal s else Q (.exit i) s
  | e, s => Q e s
theorem T_block {id : Nat} {c : Code} (h : T r n P c s (inB id Q)) : T r n P (.block id c) s Q := fun W a w hh => by
  refine wpIn_block (wpIn_mono (h W a w hh) ?_)
  rintro e a' w' ⟨s', q, k⟩
  cases e with
  | exit i =>
    simp only [inB, Exit.inBlock] at q ⊢
    split
    · rename_i e; rw [if_pos e] at q; exact ⟨s', q, k⟩
    · rename_i e; rw [if_neg e] at q; exact ⟨s', q, k⟩
  | _ => exact ⟨s', q, k⟩
theorem T_cond {c : Operand} {x y : Code} {b : Bool} (hc : ev E c = some (.bool b)) (ht : b = true → T r n P x ⟨D, E, L⟩ Q) (hf : b = false → T r n P y ⟨D, E, L⟩ Q) : T r n P (.cond c x y) ⟨D, E, L⟩ Q := fun W a w hh =>
  wpIn_cond_split (hh.1.ev hc) (fun e => ht e W a w hh) (fun e => hf e W a w hh)
theorem T_if {c : Operand} {x y : Code} {p : Prop} [Decidable p] (hc : ev E c = some (.bool (decide p))) (ht : p → T r n P x ⟨D, E, L⟩ Q) (hf : ¬ p → T r n P y ⟨D, E, L⟩ Q) : T r n P (.cond c x y) ⟨D, E, L⟩ Q :=
  T_cond hc (fun e => ht (of_decide_eq_true e)) (fun e => hf (of_decide_eq_false e))
theorem T_cond_true {c : Operand} {x y : Code} (hc : ev E c = some (.bool true)) (ht : T r n P x ⟨D, E, L⟩ Q) : T r n P (.cond c x y) ⟨D, E, L⟩ Q := T_cond hc (fun _ => ht) (fun e => by cases e)
theorem T_cond_false {c : Operand} {x y : Code} (hc : ev E c = some (.bool false)) (ht : T r n P y ⟨D, E, L⟩ Q) : T r n P (.cond c x y) ⟨D, E, L⟩ Q := T_cond hc (fun e => by cases e) (fun _ => ht)
/-- A loop: σ tells the state at its head. -/
theorem T_loop {c : Code} {σ : Type} (I : σ → Prop) (S : σ → St) (μ : σ → Nat) (x0 : σ) (h0 : I x0) (hs : ∀ W a w, Holds n W s a w → Holds n W (S x0) a w)
    (round : ∀ x, I x → T r n P c (S x) (thenS (fun s' => ∃ y, I y ∧ μ y < μ x ∧ ∀ W a w, Holds n W s' a w → Holds n W (S y) a w) Q)) : T r n P (.loop c) s Q := fun W a w hh => by
  have key : ∀ m x, μ x = m → I x → ∀ a w, Holds n W (S x) a w → ∀ (b : Frame) (k : List Item) (cs : List Frame), b.roundOf = (Fw r).round → (Fw r).fn b.fn → (Fw r).room (cs.length + 1 + 0) →
      ∃ e a' w', (∃ s', Q e s' ∧ Holds n W s' a' w') ∧ ArrivesIn (Machine.fenced P (Fw r)) P (lone (b.atR a (.code c :: .inLoop c :: k)) cs w) b k cs e a' w' := by
    intro m
    induction m using Nat.strongRecOn with
    | _ m ih =>
      intro x hm hI a w hx b k cs hro hb hr
      obtain ⟨e, a₁, w₁, ⟨s', q, hk⟩, harr⟩ := round x hI W a w hx b (.inLoop c :: k) cs hro hb hr
      cases e with
      | normal =>
        simp only [thenS] at q
        obtain ⟨y, hy, hlt, hS⟩ := q
        obtain ⟨e₂, a₂, w₂, hq₂, harr₂⟩ := ih (μ y) (hm ▸ hlt) y rfl hy a₁ w₁ (hS W a₁ w₁ hk) b k cs hro hb hr
        exact ⟨e₂, a₂, w₂, hq₂, ArrivesIn.of_steps (StepsIn.trans harr (.one (fenced_calm hb hr rfl) stepR_inLoop)) harr₂⟩
      | exit id => exact ⟨_, a₁, w₁, ⟨s', q, hk⟩, .pass (x := .inLoop c) rfl (fun _ _ => .inl (by simp)) harr⟩
      | goto l => exact ⟨_, a₁, w₁, ⟨s', q, hk⟩, .pass (x := .inLoop c) rfl (fun _ _ => .inl (by simp)) harr⟩
      | ret => exact ⟨_, a₁, w₁, ⟨s', q, hk⟩, .pass (x := .inLoop c) rfl (fun _ _ => .inl (by simp)) harr⟩
      | panic ch => exact ⟨_, a₁, w₁, ⟨s', q, hk⟩, .pass (x := .inLoop c) rfl (fun _ _ => .inl (by simp)) harr⟩
      | outgrown => exact ⟨_, a₁, w₁, ⟨s', q, hk⟩, .pass (x := .inLoop c) rfl (fun _ _ => .inl (by simp)) harr⟩
  intro b k cs hro hb hr
  obtain ⟨e, a', w', hq, harr⟩ := key _ x0 rfl h0 a w (hs W a w hh) b k cs hro hb hr
  exact ⟨e, a', w', hq, ArrivesIn.of_steps (.one (fenced_calm hb hr rfl) stepR_loop) harr⟩
end
end Go.SL
set_option linter.unusedVariables false
set_option linter.unusedSimpArgs false
namespace Go.SL
open Go

/-! ### Facts on types and functions of one program -/
class TyAgg (P : Program) (t : TypeId) (b : outParam Bool) : Prop where
  run : ∀ w, (isAgg t).run P w = .ok b w
class TySize (P : Program) (t : TypeId) (k : outParam Nat) : Prop where
  run : ∀ w, (sizeOf t).run P w = .ok k w
class TyZero (P : Program) (t : TypeId) (z : outParam Value) : Prop where
  run : ∀ w, (zeroValue t).run P w = .ok z w
class TyDesc (P : Program) (t : TypeId) (d : outParam TypeDesc) : Prop where
  run : ∀ w, (underlying t).run P w = .ok d w
class TyField (P : Program) (t : TypeId) (i : Nat) (off : outParam Nat) (ft : outParam TypeId) : Prop where
  run : ∃ fs f, (∀ w, (underlying t).run P w = .ok (.struct fs) w) ∧ fs[i]? = some f ∧ f.offset = off ∧ f.type = ft ∧ ∃ k, k ≠ 0 ∧ ∀ w, (sizeOf ft).run P w = .ok k w
/-- Zero, cells and bytes of an element. -/
class TyElem (P : Program) (t : TypeId) (z : outParam Value) (size bytes : outParam Nat) : Prop where
  info : (P.info? t).map (fun i => (i.zero, i.size, i.bytes)) = some (some z, size, bytes)
class IsCall (P : Program) (f : FuncId) : Prop where
  run : ∀ args w, (callFunc f args).run P w = .ok (.enter f args) w

section
variable {r : Option Nat} {n : Nat} {P : Program} {ops : Array Oper} {rest : List Oper} {K : St → Prop} {Q : Exit → St → Prop} {D : List Deferred} {E : Env} {L L' : List HP} {d : Nat} {ty : TypeId} {pos : String} {af : Array Edge}

/-! ### The shapes of a step -/
theorem TL_nil {s : St} (h : K s) : TL r n P ops [] s K := fun W a w hh => ⟨rfl, s, h, hh⟩
theorem TL_val {o : Oper} (hdst : o.dst = some d) (hd : Nat.blt d n = true) (hg : o.guard = none) (hnd : ∀ c, o.op ≠ .defer c)
    (h : ∀ W a w, Holds n W ⟨D, E, L⟩ a w → ∃ v w' L', (execOp a.eval o).run P w = .ok (.value v) w' ∧ Sat W w' L' ∧ TL r n P ops rest ⟨D, (d, v) :: E, L'⟩ K) : TL r n P ops (o :: rest) ⟨D, E, L⟩ K := fun W a w hh => by
  obtain ⟨v, w', L', hr, hs, hk⟩ := h W a w hh
  refine wpListIn_plain hg fun K' hK => ⟨fun _ _ => trivial, ?_⟩
  rw [Oper.semAt_eq _ _ _ hnd, hr]
  refine hK _ _ ?_
  rw [hdst]
  exact hk W _ _ ⟨hh.1.put (by simpa using hd) v, hs⟩
theorem TL_skip {o : Oper} (hdst : o.dst = none) (hg : o.guard = none) (hnd : ∀ c, o.op ≠ .defer c)
    (h : ∀ W a w, Holds n W ⟨D, E, L⟩ a w → ∃ x w' L', (execOp a.eval o).run P w = .ok x w' ∧ (x = .skip ∨ ∃ v, x = .value v) ∧ Sat W w' L' ∧ TL r n P ops rest ⟨D, E, L'⟩ K) : TL r n P ops (o :: rest) ⟨D, E, L⟩ K := fun W a w hh => by
  obtain ⟨x, w', L', hr, hx, hs, hk⟩ := h W a w hh
  refine wpListIn_plain hg fun K' hK => ⟨fun _ _ => trivial, ?_⟩
  rw [Oper.semAt_eq _ _ _ hnd, hr]
  rcases hx with rfl | ⟨v, rfl⟩ <;> refine hK _ _ ?_ <;> rw [hdst] <;> exact hk W _ _ ⟨hh.1, hs⟩
/-! ### Guards -/
theorem TL_grun {dst : Option Tmp} {op : Op} {j g : Nat} {want : Bool} (hy : (ops[j]?).bind (·.dst) = some g) (hl : look E g = some (.bool want))
    (h : TL r n P ops (⟨dst, op, ty, pos, af, none⟩ :: rest) ⟨D, E, L⟩ K) : TL r n P ops (⟨dst, op, ty, pos, af, some (j, want)⟩ :: rest) ⟨D, E, L⟩ K := fun W a w hh => by
  have hw : Region.wanted ⟨dst, op, ty, pos, af, some (j, want)⟩ (yielded ops a.tmps) = true := by
    simp [Region.wanted, yielded, hy, hh.1.get g _ hl]
  have h1 := h W a w hh
  simp only [wpListIn, Region.wanted, if_true] at h1
  simp only [wpListIn, hw, if_true]
  exact h1
theorem TL_gskip {op : Op} {j g : Nat} {want b : Bool} (hd : Nat.blt d n = true) (hy : (ops[j]?).bind (·.dst) = some g) (hl : look E g = some (.bool b)) (hb : (b == want) = false)
    (h : TL r n P ops rest ⟨D, (d, undef) :: E, L⟩ K) : TL r n P ops (⟨some d, op, ty, pos, af, some (j, want)⟩ :: rest) ⟨D, E, L⟩ K := fun W a w hh => by
  have hw : Region.wanted ⟨some d, op, ty, pos, af, some (j, want)⟩ (yielded ops a.tmps) = false := by
    simp only [Region.wanted, yielded, hy, Option.bind_some, hh.1.get g _ hl]
    simpa using hb
  simp only [wpListIn, hw, Bool.false_eq_true, if_false]
  exact ⟨fun _ _ => trivial, h W _ _ ⟨hh.1.put (by simpa using hd) _, hh.2⟩⟩
/-- A slot's truth is taken both ways. -/
theorem TL_split (g : Nat) {b : Bool} (hl : look E g = some (.bool b)) (ht : b = true → TL r n P ops rest ⟨D, (g, .bool true) :: E, L⟩ K) (hf : b = false → TL r n P ops rest ⟨D, (g, .bool false) :: E, L⟩ K) : TL r n P ops rest ⟨D, E, L⟩ K := by
  have hless : ∀ a, View n D a E → View n D a ((g, .bool b) :: E) := fun a ha => ⟨ha.size, ha.defers, fun i v hv => by
    simp only [look] at hv
    cases e : Nat.beq g i with
    | true =>
      rw [e] at hv
      simp only [cond_true, Option.some.injEq] at hv
      have : g = i := Nat.eq_of_beq_eq_true e
      subst this; subst hv
      exact ha.get g _ hl
    | false =>
      rw [e] at hv
      exact ha.get i v hv⟩
  cases b with
  | true => exact fun W a w hh => ht rfl W a w ⟨hless a hh.1, hh.2⟩
  | false => exact fun W a w hh => hf rfl W a w ⟨hless a hh.1, hh.2⟩
theorem TL_splitd (g : Nat) {p : Prop} [Decidable p] (hl : look E g = some (.bool (decide p))) (ht : p → TL r n P ops rest ⟨D, (g, .bool true) :: E, L⟩ K) (hf : ¬ p → TL r n P ops rest ⟨D, (g, .bool false) :: E, L⟩ K) : TL r n P ops rest ⟨D, E, L⟩ K :=
  TL_split g hl (fun e => ht (of_decide_eq_true e)) (fun e => hf (of_decide_eq_false e))
/-- A slot's value by another name. -/
theorem TL_name (g : Nat) {v v' : Value} (hl : look E g = some v) (e : v = v') (h : TL r n P ops rest ⟨D, (g, v') :: E, L⟩ K) : TL r n P ops rest ⟨D, E, L⟩ K := by
  subst e
  refine fun W a w hh => h W a w ⟨⟨hh.1.size, hh.1.defers, fun i u hv => ?_⟩, hh.2⟩
  simp only [look] at hv
  cases e : Nat.beq g i with
  | true =>
    rw [e] at hv
    simp only [cond_true, Option.some.injEq] at hv
    have : g = i := Nat.eq_of_beq_eq_true e
    subst this; subst hv
    exact hh.1.get g _ hl
  | false =>
    rw [e] at hv
    exact hh.1.get i u hv

/-- op comes to v wherever these slots and these assertions hold, and leaves the world alone. -/
def Yl (P : Program) (E : Env) (L : List HP) (op : Op) (ty : TypeId) (v : Value) : Prop :=
  ∀ n D W a w dst pos af g, View n D a E → Sat W w L → (execOp a.eval ⟨dst, op, ty, pos, af, g⟩).run P w = .ok (.value v) w
theorem Yl.val {op : Op} {v v' : Value} (h : Yl P E L op ty v) (e : v = v') : Yl P E L op ty v' := e ▸ h
theorem Yl.gives {op : Op} {v : Value} (h : Yl P E L' op ty v) (g : Gives L L') : Yl P E L op ty v := fun n D W a w dst pos af gd ha hs => h n D W a w dst pos af gd ha (hs.gives g)
def plainOp : Op → Bool
  | .select _ _ => false
  | .defer _ => false
  | _ => true
theorem TL_y {op : Op} {v : Value} (hd : Nat.blt d n = true) (hp : plainOp op = true) (hy : Yl P E L op ty v) (h : TL r n P ops rest ⟨D, (d, v) :: E, L⟩ K) : TL r n P ops (⟨some d, op, ty, pos, af, none⟩ :: rest) ⟨D, E, L⟩ K :=
  TL_val rfl hd rfl (fun c e => by subst e; cases hp) fun W a w hh => ⟨v, w, L, hy n D W a w _ _ _ _ hh.1 hh.2, hh.2, h⟩

/-! ### Operations that compute -/
theorem Y_move {x : Operand} {v : Value} (hx : ev E x = some v) : Yl P E L (.move x) ty (v) := fun n D W a w dst pos af g ha hs => by simp only [execOp, ha.ev hx]; rfl
theorem Y_assign {x : Operand} {v : Value} (hx : ev E x = some v) : Yl P E L (.assign x) ty (v) := fun n D W a w dst pos af g ha hs => by simp only [execOp, ha.ev hx]; rfl
theorem Y_pick_t {c x y : Operand} {u : Value} (hc : ev E c = some (.bool true)) (hx : ev E x = some u) : Yl P E L (.pick c x y) ty (u) := fun n D W a w dst pos af g ha hs => by simp only [execOp, ha.ev hc, ha.ev hx]; rfl
theorem Y_pick_f {c x y : Operand} {u : Value} (hc : ev E c = some (.bool false)) (hy : ev E y = some u) : Yl P E L (.pick c x y) ty (u) := fun n D W a w dst pos af g ha hs => by simp only [execOp, ha.ev hc, ha.ev hy]; rfl
theorem Y_extract {x : Operand} {i : Nat} {vs : List Value} {v : Value} (hx : ev E x = some (.tuple vs.toArray)) (hi : vs[i]? = some v) : Yl P E L (.extract x i) ty (v) := fun n D W a w dst pos af g ha hs => by simp [execOp, ha.ev hx, Instr.extract, hi]
theorem Y_make_func {fn : Go.Fn} {az cs : List Operand} {us vs : List Value} (ha : evl E az = some us) (hc : evl E cs = some vs) : Yl P E L (.makeFunc fn az.toArray cs.toArray) ty (.func fn us.toArray vs.toArray) := fun n D W a w dst pos af g hv hs => by simp [execOp, Instr.makeFunc, hv.evl ha, hv.evl hc]
theorem Y_not {x : Operand} {t : TypeId} {b : Bool} (hx : ev E x = some (.bool b)) : Yl P E L (.unOp .not t x) ty (.bool (!b)) := fun n D W a w dst pos af g ha hs => by simp only [execOp, ha.ev hx]; rfl
theorem Y_not_t {x : Operand} {t : TypeId} (hx : ev E x = some (.bool true)) : Yl P E L (.unOp .not t x) ty (.bool false) := Y_not hx
theorem Y_not_d {x : Operand} {t : TypeId} {p : Prop} [Decidable p] (hx : ev E x = some (.bool (decide p))) : Yl P E L (.unOp .not t x) ty (.bool (decide (¬ p))) := (Y_not hx).val (by rw [decide_not])

theorem run_binop {op : BinOp} {t : TypeId} {x y : Operand} {t' : TypeId} {k : IntKind} {m l : Int} {a : Act} {w : World} {dst : Option Tmp} {g : Option (Nat × Bool)} (hx : a.eval x = .int k m) (hy : a.eval y = .int k l) :
    (execOp a.eval ⟨dst, .binOp op t x y t', ty, pos, af, g⟩).run P w = (do let v ← Go.binOp op t (.int k m) (.int k l); Sem.pure (Next.value v) : Sem Next).run P w := by
  simp only [execOp, hx, hy, eqGuard]
  cases op <;> rfl
theorem run_intcmp {op : BinOp} {t : TypeId} {k : IntKind} {m l : Int} (h : op = .eql ∨ op = .neq ∨ op = .lss ∨ op = .leq ∨ op = .gtr ∨ op = .geq) : Go.binOp op t (.int k m) (.int k l) = Op.intCmp op m l := by
  rcases h with rfl | rfl | rfl | rfl | rfl | rfl <;> simp [Go.binOp]
section ints
variable {t t' : TypeId} {x y : Operand} {k : IntKind} {m l : Int}
theorem Y_eq (hx : ev E x = some (.int k m)) (hy : ev E y = some (.int k l)) : Yl P E L (.binOp .eql t x y t') ty (.bool (decide (m = l))) := fun n D W a w dst pos af g ha hs => by rw [run_binop (ha.ev hx) (ha.ev hy), run_intcmp (by simp)]; rfl
theorem Y_ne (hx : ev E x = some (.int k m)) (hy : ev E y = some (.int k l)) : Yl P E L (.binOp .neq t x y t') ty (.bool (decide (m ≠ l))) := fun n D W a w dst pos af g ha hs => by rw [run_binop (ha.ev hx) (ha.ev hy), run_intcmp (by simp)]; simp only [Op.intCmp, decide_not]; rfl
theorem Y_lt (hx : ev E x = some (.int k m)) (hy : ev E y = some (.int k l)) : Yl P E L (.binOp .lss t x y t') ty (.bool (decide (m < l))) := fun n D W a w dst pos af g ha hs => by rw [run_binop (ha.ev hx) (ha.ev hy), run_intcmp (by simp)]; rfl
theorem Y_le (hx : ev E x = some (.int k m)) (hy : ev E y = some (.int k l)) : Yl P E L (.binOp .leq t x y t') ty (.bool (decide (m ≤ l))) := fun n D W a w dst pos af g ha hs => by rw [run_binop (ha.ev hx) (ha.ev hy), run_intcmp (by simp)]; rfl
theorem Y_gt (hx : ev E x = some (.int k m)) (hy : ev E y = some (.int k l)) : Yl P E L (.binOp .gtr t x y t') ty (.bool (decide (l < m))) := fun n D W a w dst pos af g ha hs => by rw [run_binop (ha.ev hx) (ha.ev hy), run_intcmp (by simp)]; rfl
theorem Y_ge (hx : ev E x = some (.int k m)) (hy : ev E y = some (.int k l)) : Yl P E L (.binOp .geq t x y t') ty (.bool (decide (l ≤ m))) := fun n D W a w dst pos af g ha hs => by rw [run_binop (ha.ev hx) (ha.ev hy), run_intcmp (by simp)]; rfl
theorem Y_add_w (hx : ev E x = some (.int k m)) (hy : ev E y = some (.int k l)) : Yl P E L (.binOp .add t x y t') ty (.int k (k.wrap (m + l))) := fun n D W a w dst pos af g ha hs => by rw [run_binop (ha.ev hx) (ha.ev hy)]; simp [Go.binOp, Op.intArith]
theorem Y_sub_w (hx : ev E x = some (.int k m)) (hy : ev E y = some (.int k l)) : Yl P E L (.binOp .sub t x y t') ty (.int k (k.wrap (m - l))) := fun n D W a w dst pos af g ha hs => by rw [run_binop (ha.ev hx) (ha.ev hy)]; simp [Go.binOp, Op.intArith]
theorem Y_mul_w (hx : ev E x = some (.int k m)) (hy : ev E y = some (.int k l)) : Yl P E L (.binOp .mul t x y t') ty (.int k (k.wrap (m * l))) := fun n D W a w dst pos af g ha hs => by rw [run_binop (ha.ev hx) (ha.ev hy)]; simp [Go.binOp, Op.intArith]
theorem Y_add (hx : ev E x = some (.int .i64 m)) (hy : ev E y = some (.int .i64 l)) (hb : -9223372036854775808 ≤ m + l ∧ m + l ≤ 9223372036854775807) : Yl P E L (.binOp .add t x y t') ty (.int .i64 (m + l)) := (Y_add_w hx hy).val (by rw [IntWalk.i64_in _ hb])
theorem Y_sub (hx : ev E x = some (.int .i64 m)) (hy : ev E y = some (.int .i64 l)) (hb : -9223372036854775808 ≤ m - l ∧ m - l ≤ 9223372036854775807) : Yl P E L (.binOp .sub t x y t') ty (.int .i64 (m - l)) := (Y_sub_w hx hy).val (by rw [IntWalk.i64_in _ hb])
theorem Y_mul (hx : ev E x = some (.int .i64 m)) (hy : ev E y = some (.int .i64 l)) (hb : -9223372036854775808 ≤ m * l ∧ m * l ≤ 9223372036854775807) : Yl P E L (.binOp .mul t x y t') ty (.int .i64 (m * l)) := (Y_mul_w hx hy).val (by rw [IntWalk.i64_in _ hb])
/-- Bits, az the model reckons them. -/
def bitsOf (op : BinOp) (k : IntKind) (x y : Int) : Int := k.wrap ((match op with
  | .and => BitVec.ofInt k.bits x &&& BitVec.ofInt k.bits y
  | .or => BitVec.ofInt k.bits x ||| BitVec.ofInt k.bits y
  | .xor => BitVec.ofInt k.bits x ^^^ BitVec.ofInt k.bits y
  | _ => BitVec.ofInt k.bits x &&& ~~~BitVec.ofInt k.bits y).toNat)
theorem Y_shr {k' : IntKind} (hx : ev E x = some (.int k m)) (hy : ev E y = some (.int k' l)) (hb : 0 ≤ l) : Yl P E L (.binOp .shr t x y t') ty (.int k (m.fdiv (2 ^ min l.toNat k.bits))) := fun n D W a w dst pos af g ha hs => by simp only [execOp, ha.ev hx, ha.ev hy, eqGuard, Go.binOp, Op.shift]; have h0 : ¬ l < 0 := (by omega); simp [h0]
theorem Y_conv {k' : IntKind} {src dst : TypeId} {ds : TypeDesc} [h1 : TyDesc P src ds] [h2 : TyDesc P dst (.int k')] (hx : ev E x = some (.int k m)) : Yl P E L (.convert src dst x) ty (.int k' (k'.wrap m)) := fun n D W a w dst pos af g ha hs => by simp [execOp, ha.ev hx, convert, h1.run, h2.run, Conv.intToInt]
theorem Y_conv_in {k' : IntKind} {src dst : TypeId} {ds : TypeDesc} [h1 : TyDesc P src ds] [h2 : TyDesc P dst (.int k')] (hx : ev E x = some (.int k m)) (hb : k'.wrap m = m) : Yl P E L (.convert src dst x) ty (.int k' m) := (Y_conv hx).val (by rw [hb])
end ints

/-! ### Regions, functions, calls -/
theorem T_region {id : Nat} {l : List Oper} {y : Code} {s : St} (h : TL r n P l.toArray l s (fun s' => T r n P y s' Q)) : T r n P (.seq (.region id l.toArray false) y) s Q := T_seq fun W a w hh =>
  wpIn_region_lit (by
    have := h W a w hh
    exact wpListIn_mono (fun e a' w' ⟨he, s', q, k⟩ => ⟨s', by subst he; exact q, k⟩) _ a w this)
theorem T_region_last {id : Nat} {l : List Oper} {s : St} (h : TL r n P l.toArray l s (fun s' => Q .normal s')) : T r n P (.region id l.toArray false) s Q := fun W a w hh =>
  wpIn_region_lit (by
    have := h W a w hh
    exact wpListIn_mono (fun e a' w' ⟨he, s', q, k⟩ => ⟨s', by subst he; exact q, k⟩) _ a w this)

end
end Go.SL
set_option linter.unusedVariables false
set_option linter.unusedSimpArgs false
namespace Go.SL
open Go

/-! ### Lists, reckoned by unfolding -/
def takeN : Nat → List Value → Option (List Value)
  | 0, _ => some []
  | k + 1, x :: l => match takeN k l with
    | some r => some (x :: r)
    | none => none
  | _ + 1, [] => none
def cutN : Nat → Nat → List Value → Option (List Value)
  | 0, k, l => takeN k l
  | i + 1, k, _ :: l => cutN i k l
  | _ + 1, _, [] => none
def overN : List Value → List Value → Option (List Value)
  | l, [] => some l
  | [], _ :: _ => none
  | _ :: l, v :: vs => match overN l vs with
    | some r => some (v :: r)
    | none => none
def setN : Nat → List Value → List Value → Option (List Value)
  | 0, l, vs => overN l vs
  | k + 1, x :: l, vs => match setN k l vs with
    | some r => some (x :: r)
    | none => none
  | _ + 1, [], _ => none
def cellN : List Value → Nat → Option Value
  | [], _ => none
  | x :: _, 0 => some x
  | _ :: l, k + 1 => cellN l k
def oneN : List Value → Bool
  | [] => true
  | v :: l => v.oneCell' && oneN l
def partsOf : Value → Option (List Value)
  | .agg cs => some cs.toList
  | .tuple _ => none
  | v => some [v]
def pullO : Nat → List HP → Option (List HP)
  | 0, L => some L
  | _ + 1, [] => none
  | k + 1, p :: L => match pullO k L with
    | some (q :: R) => some (q :: p :: R)
    | _ => none
def envO : Nat → List Value → Option Env
  | _, [] => some []
  | i, v :: vs => match envO (i + 1) vs with
    | some E => some ((i, v) :: E)
    | none => none

theorem takeN_eq : ∀ {k : Nat} {l vs : List Value}, takeN k l = some vs → vs = l.take k ∧ k ≤ l.length
  | 0, l, vs, h => by simp [takeN] at h; simp [h]
  | k + 1, [], vs, h => by cases h
  | k + 1, x :: l, vs, h => by
    simp only [takeN] at h
    cases e : takeN k l with
    | none => rw [e] at h; cases h
    | some r' =>
      rw [e] at h
      cases h
      obtain ⟨h1, h2⟩ := takeN_eq e
      exact ⟨by simp [h1], by simpa using h2⟩
theorem cutN_eq : ∀ {i k : Nat} {l vs : List Value}, cutN i k l = some vs → vs = (l.drop i).take k ∧ i + k ≤ l.length
  | 0, k, l, vs, h => by
    obtain ⟨h1, h2⟩ := takeN_eq (show takeN k l = some vs by simpa [cutN] using h)
    exact ⟨by simpa using h1, by omega⟩
  | i + 1, k, [], vs, h => by cases h
  | i + 1, k, x :: l, vs, h => by
    obtain ⟨h1, h2⟩ := cutN_eq (show cutN i k l = some vs by simpa [cutN] using h)
    exact ⟨by simpa using h1, by simp; omega⟩
theorem overN_eq : ∀ {l vs rs : List Value}, overN l vs = some rs → rs = vs ++ l.drop vs.length ∧ vs.length ≤ l.length
  | l, [], rs, h => by simp [overN] at h; simp [h]
  | [], _ :: _, rs, h => by cases h
  | x :: l, v :: vs, rs, h => by
    simp only [overN] at h
    cases e : overN l vs with
    | none => rw [e] at h; cases h
    | some r' =>
      rw [e] at h
      cases h
      obtain ⟨h1, h2⟩ := overN_eq e
      exact ⟨by simp [h1], by simpa using h2⟩
theorem setN_eq : ∀ {i : Nat} {l vs rs : List Value}, setN i l vs = some rs → rs = l.take i ++ vs ++ l.drop (i + vs.length) ∧ i + vs.length ≤ l.length
  | 0, l, vs, rs, h => by
    obtain ⟨h1, h2⟩ := overN_eq (show overN l vs = some rs by simpa [setN] using h)
    exact ⟨by simpa using h1, by omega⟩
  | i + 1, [], vs, rs, h => by cases h
  | i + 1, x :: l, vs, rs, h => by
    simp only [setN] at h
    cases e : setN i l vs with
    | none => rw [e] at h; cases h
    | some r' =>
      rw [e] at h
      cases h
      obtain ⟨h1, h2⟩ := setN_eq e
      refine ⟨?_, by simp; omega⟩
      rw [h1, show i + 1 + vs.length = (i + vs.length) + 1 by omega]
      simp
theorem cellN_eq : ∀ {l : List Value} {i : Nat} {v : Value}, cellN l i = some v → l[i]? = some v
  | [], _, _, h => by cases h
  | x :: l, 0, v, h => by simpa [cellN] using h
  | x :: l, k + 1, v, h => by simpa [cellN] using cellN_eq (show cellN l k = some v by simpa [cellN] using h)
theorem oneN_mem : ∀ {l : List Value}, oneN l = true → ∀ v ∈ l, v.oneCell' = true
  | [], _, v, hv => by cases hv
  | x :: l, h, v, hv => by
    simp only [oneN, Bool.and_eq_true] at h
    rcases List.mem_cons.1 hv with rfl | hv
    · exact h.1
    · exact oneN_mem h.2 v hv
theorem partsOf_eq {v : Value} {cs : List Value} (h : partsOf v = some cs) : v.cells = cs.toArray := by
  cases v <;> simp [partsOf] at h <;> simp [Value.cells, ← h]
theorem envO_look : ∀ {vs : List Value} {i : Nat} {E : Env}, envO i vs = some E → ∀ j v, look E j = some v → i ≤ j ∧ vs[j - i]? = some v
  | [], i, E, h, j, v, hv => by simp [envO] at h; subst h; cases hv
  | u :: vs, i, E, h, j, v, hv => by
    simp only [envO] at h
    cases e : envO (i + 1) vs with
    | none => rw [e] at h; cases h
    | some E' =>
      rw [e] at h
      cases h
      simp only [look] at hv
      cases e2 : Nat.beq i j with
      | true =>
        rw [e2] at hv
        have : i = j := Nat.eq_of_beq_eq_true e2
        subst this
        simp only [cond_true, Option.some.injEq] at hv
        simp [hv]
      | false =>
        rw [e2] at hv
        obtain ⟨h1, h2⟩ := envO_look e j v hv
        refine ⟨by omega, ?_⟩
        rw [show j - i = (j - (i + 1)) + 1 by omega]
        simpa using h2

/-! ### Assertions on rows of cells -/
/-- Block b is a row of just these cells, ours. -/
def cells (b : Nat) (l : List Value) (t : TypeId) : HP := own b (.cells l.toArray t (0, 0))
/-- From place o on block b holds these cells; nobody writes them. -/
def rowAt (M : Mem) (b o : Nat) (l : List Value) : Prop := ∃ c t fr, M b = some (.cells c t fr) ∧ ∀ j v, l[j]? = some v → c[o + j]? = some v
def row (b o : Nat) (l : List Value) : HP := pers (fun M => rowAt M b o l) (fun hM ⟨c, t, fr, h, k⟩ => ⟨c, t, fr, hM _ _ h, k⟩)
instance {b o : Nat} {l : List Value} : Pers (row b o l) := ⟨fun _ _ h => h⟩
theorem Knows.head' {p : HP} {L : List HP} {φ : Mem → Prop} (h : ∀ M k, p.holds M k → φ M) : Knows (p :: L) φ := fun M m ⟨_, _, _, _, _, hp, _⟩ => h _ _ hp
theorem cell_of {w : World} {b i : Nat} {c : Array Value} {t : TypeId} {fr : Nat × Nat} (h : w.heap[b]? = some (.cells c t fr)) : w.cell? ⟨b, i, none⟩ = c[i]? := by simp [World.cell?, h]
theorem Addr.add_plain (b o j : Nat) : (⟨b, o, none⟩ : Addr).add j = ⟨b, o + j, none⟩ := by unfold Addr.add; split <;> simp_all
theorem rowAt.cell {M : Mem} {w : World} {b o j : Nat} {l : List Value} {v : Value} (h : rowAt M b o l) (hM : M.le (heapOf w)) (hj : l[j]? = some v) : w.cell? ⟨b, o + j, none⟩ = some v := by
  obtain ⟨c, t, fr, hb, hc⟩ := h
  rw [cell_of (hM _ _ hb)]
  exact hc _ _ hj
theorem rowAt.cut {M : Mem} {b o i : Nat} {l : List Value} (k : Nat) (h : rowAt M b o l) : rowAt M b (o + i) ((l.drop i).take k) := by
  obtain ⟨c, t, fr, hb, hc⟩ := h
  refine ⟨c, t, fr, hb, fun j v hv => ?_⟩
  rw [List.getElem?_take] at hv
  split at hv
  · rw [List.getElem?_drop] at hv
    rw [Nat.add_assoc]
    exact hc _ _ hv
  · cases hv

section
variable {r : Option Nat} {n : Nat} {P : Program} {ops : Array Oper} {rest : List Oper} {K : St → Prop} {Q : Exit → St → Prop} {D : List Deferred} {E : Env} {L L' : List HP} {d : Nat} {ty : TypeId} {pos : String} {af : Array Edge}

theorem Sat.cells_at {o w : World} {b : Nat} {l : List Value} {t : TypeId} (h : Sat o w (cells b l t :: L)) : w.heap[b]? = some (.cells l.toArray t (0, 0)) := h.own_at
theorem Sat.cell {o w : World} {b i : Nat} {l : List Value} {t : TypeId} {v : Value} (h : Sat o w (cells b l t :: L)) (hv : l[i]? = some v) : w.cell? ⟨b, i, none⟩ = some v := by
  rw [cell_of h.cells_at]
  simpa using hv
/-- A row of ours is turned. -/
theorem Sat.setRow {o w : World} {b : Nat} {l l' : List Value} {t : TypeId} (h : Sat o w (cells b l t :: L)) : Sat o (w.setRow b l'.toArray) (cells b l' t :: L) := by
  have hb := h.cells_at
  refine Sat.set h (y := .cells l'.toArray t (0, 0)) ?_ (fun i hi => ?_) rfl rfl rfl (by simp [World.setRow])
  · simp only [World.setRow, Array.getElem?_modify, if_true, hb, Option.map_some]
  · simp only [World.setRow, Array.getElem?_modify]
    rw [if_neg (Ne.symm hi)]

/-- The row of block b is found among L; R: all else. -/
class FindC (L : List HP) (b : Nat) (l : outParam (List Value)) (t : outParam TypeId) (R : outParam (List HP)) : Prop where
  g : Gives L (cells b l t :: R)
instance findC_tail {p : HP} {L R : List HP} {b : Nat} {l : List Value} {t : TypeId} [h : FindC L b l t R] : FindC (p :: L) b l t (p :: R) := ⟨(Gives.cons p h.g).trans (Gives.swap p _ R)⟩
instance findC_head {L : List HP} {b : Nat} {l : List Value} {t : TypeId} : FindC (cells b l t :: L) b l t L := ⟨Gives.refl _⟩
/-- A row that nobody writes, from place o on block b on, is found among L. -/
class FindR (L : List HP) (b o : Nat) (l : outParam (List Value)) : Prop where
  k : Knows L (fun M => rowAt M b o l)
instance findR_tail {p : HP} {L : List HP} {b o : Nat} {l : List Value} [h : FindR L b o l] : FindR (p :: L) b o l := ⟨Knows.tail h.k⟩
instance findR_head {L : List HP} {b o : Nat} {l : List Value} : FindR (row b o l :: L) b o l := ⟨Knows.head' fun _ _ h => h⟩

/-! ### Boxes -/
theorem TL_box {x : Operand} {t : TypeId} {v : Value} {cs : List Value} (hd : Nat.blt d n = true) (hx : ev E x = some v) (hc : partsOf v = some cs) (h : ∀ b, TL r n P ops rest ⟨D, (d, .pointer (some ⟨b, 0, none⟩)) :: E, cells b cs t :: L⟩ K) :
    TL r n P ops (⟨some d, .box t x, ty, pos, af, none⟩ :: rest) ⟨D, E, L⟩ K :=
  TL_val rfl hd rfl (fun _ e => by cases e) fun W a w hh => ⟨_, w.alloc (.cells cs.toArray t), _, by simp only [execOp, hh.1.ev hx, Instr.box, newVar, newRow, newObj, partsOf_eq hc]; rfl, hh.2.alloc _, h w.heap.size⟩
theorem TL_alloc {t : TypeId} {v : Value} {cs : List Value} [hz : TyZero P t v] (hd : Nat.blt d n = true) (hc : partsOf v = some cs) (h : ∀ b, TL r n P ops rest ⟨D, (d, .pointer (some ⟨b, 0, none⟩)) :: E, cells b cs t :: L⟩ K) :
    TL r n P ops (⟨some d, .alloc t, ty, pos, af, none⟩ :: rest) ⟨D, E, L⟩ K :=
  TL_val rfl hd rfl (fun _ e => by cases e) fun W a w hh => ⟨_, w.alloc (.cells cs.toArray t), _, by
    simp only [execOp, Instr.alloc, Sem.run_bind, hz.run, Result.andThen_ok, newVar, newRow, newObj, partsOf_eq hc]; rfl, hh.2.alloc _, h w.heap.size⟩

/-! ### Addresses -/
theorem Y_field_addr {x : Operand} {t ft : TypeId} {i b o off : Nat} [hf : TyField P t i off ft] (hx : ev E x = some (.pointer (some ⟨b, o, none⟩))) : Yl P E L (.fieldAddr t x i) ty (.pointer (some ⟨b, o + off, none⟩)) := fun n D W a w dst pos af g ha hs => by
  obtain ⟨fs, f, h1, h2, rfl, rfl, k, hk, h3⟩ := hf.run
  simp only [execOp, ha.ev hx, Instr.fieldAt, Sem.run_bind, h1, Result.andThen_ok, h2, Instr.sureAddr, Sem.run_pure, fieldPlace, h3, hk, if_false, Addr.add_plain]
/-- A field of a field: the places are added. -/
theorem Y_field_addr2 {x : Operand} {t ft : TypeId} {i b o p off : Nat} [hf : TyField P t i off ft] (hx : ev E x = some (.pointer (some ⟨b, o + p, none⟩))) : Yl P E L (.fieldAddr t x i) ty (.pointer (some ⟨b, o + (p + off), none⟩)) :=
  (Y_field_addr hx).val (by rw [Nat.add_assoc])

/-! ### Loads and stores -/
theorem run_loadVar_one {t : TypeId} [ht : TyAgg P t false] {w : World} {ad : Addr} {v : Value} (h : w.cell? ad = some v) : (loadVar t ad).run P w = .ok v w := by
  simp only [loadVar, Sem.run_bind, ht.run, Result.andThen_ok, Bool.false_eq_true, if_false, load, Sem.run, h]
theorem run_loadVar_agg {t : TypeId} {k : Nat} [ht : TyAgg P t true] [hs : TySize P t k] {w : World} {b o : Nat} {vs : List Value} (hk : vs.length = k) (h : ∀ j v, vs[j]? = some v → w.cell? ⟨b, o + j, none⟩ = some v) :
    (loadVar t ⟨b, o, none⟩).run P w = .ok (.agg vs.toArray) w := by
  subst hk
  simp only [loadVar, Sem.run_bind, ht.run, Result.andThen_ok, if_true, hs.run, run_loadCells_list w ⟨b, o, none⟩ vs (fun j v hv => by rw [Addr.add_plain]; exact h j v hv), Sem.run_pure]
theorem Sat.load_one {o w : World} {b i : Nat} {l : List Value} {t tt : TypeId} {v : Value} [ht : TyAgg P tt false] (h : Sat o w (cells b l t :: L)) (hv : cellN l i = some v) : (loadVar tt ⟨b, i, none⟩).run P w = .ok v w :=
  run_loadVar_one (h.cell (cellN_eq hv))
theorem Sat.load_agg {o w : World} {b i k : Nat} {l vs : List Value} {t tt : TypeId} [ht : TyAgg P tt true] [hs : TySize P tt k] (h : Sat o w (cells b l t :: L)) (hv : cutN i k l = some vs) : (loadVar tt ⟨b, i, none⟩).run P w = .ok (.agg vs.toArray) w := by
  obtain ⟨e, hl⟩ := cutN_eq hv
  refine run_loadVar_agg (hk := ?_) fun j v hj => h.cell ?_
  · rw [e]; simp; omega
  · rw [e, List.getElem?_take] at hj
    split at hj
    · rw [List.getElem?_drop] at hj; exact hj
    · cases hj
theorem Y_load {x : Operand} {t tt : TypeId} {b i : Nat} {l : List Value} {v : Value} {R : List HP} [ht : TyAgg P t false] (hx : ev E x = some (.pointer (some ⟨b, i, none⟩))) [hc : FindC L b l tt R] (hv : cellN l i = some v) : Yl P E L (.load t x) ty v := fun n D W a w dst pos af g ha hs => by
  simp only [execOp, ha.ev hx, Instr.loadAt, Instr.sureAddr, Sem.run_bind, Sem.run_pure, Result.andThen_ok, Sat.load_one (hs.gives hc.g) hv]
theorem Y_load_agg {x : Operand} {t tt : TypeId} {b i m : Nat} {l vs : List Value} {R : List HP} [ht : TyAgg P t true] [hz : TySize P t m] (hx : ev E x = some (.pointer (some ⟨b, i, none⟩))) [hc : FindC L b l tt R] (hv : cutN i m l = some vs) : Yl P E L (.load t x) ty (.agg vs.toArray) := fun n D W a w dst pos af g ha hs => by
  simp only [execOp, ha.ev hx, Instr.loadAt, Instr.sureAddr, Sem.run_bind, Sem.run_pure, Result.andThen_ok, Sat.load_agg (hs.gives hc.g) hv]
theorem Y_load_row_agg {x : Operand} {t : TypeId} {b o j m : Nat} {l vs : List Value} [ht : TyAgg P t true] [hz : TySize P t m] (hx : ev E x = some (.pointer (some ⟨b, o + j, none⟩))) [hc : FindR L b o l] (hv : cutN j m l = some vs) : Yl P E L (.load t x) ty (.agg vs.toArray) := fun n D W a w dst pos af g ha hs => by
  obtain ⟨M, hM, hr⟩ := hs.knows hc.k
  obtain ⟨e, hl⟩ := cutN_eq hv
  have hrun := run_loadVar_agg (P := P) (t := t) (w := w) (b := b) (o := o + j) (vs := vs) (k := m) (hk := by rw [e]; simp; omega) (fun i v hi => (hr.cut m).cell hM (by rw [← e]; exact hi))
  simp only [execOp, ha.ev hx, Instr.loadAt, Instr.sureAddr, Sem.run_bind, Sem.run_pure, Result.andThen_ok, hrun]
theorem run_storeVar {t tt : TypeId} {m b i : Nat} {o w : World} {l l' vs : List Value} {v : Value} [hs : TySize P t m] (h : Sat o w (cells b l tt :: L)) (hp : partsOf v = some vs) (hm : Nat.beq vs.length m = true) (h1 : oneN vs = true) (hl : setN i l vs = some l') :
    (storeVar t ⟨b, i, none⟩ v).run P w = .ok () (w.setRow b l'.toArray) := by
  have hm' : vs.length = m := Nat.eq_of_beq_eq_true hm
  obtain ⟨e, hle⟩ := setN_eq hl
  simp only [storeVar, partsOf_eq hp, Sem.run_bind, hs.run, Result.andThen_ok, List.size_toArray, hm', ne_eq, not_true_eq_false, if_false, Sem.run_pure]
  have := run_storeCells_at P b i tt vs 0 l.toArray w h.cells_at (by simpa using hle) (oneN_mem h1)
  simp only [Nat.add_zero] at this
  rw [e]
  simpa using this
theorem TL_store {x y : Operand} {t tt : TypeId} {b i m : Nat} {l l' vs : List Value} {v : Value} {R : List HP} [hz : TySize P t m] (hx : ev E x = some (.pointer (some ⟨b, i, none⟩))) (hy : ev E y = some v) [hc : FindC L b l tt R] (hp : partsOf v = some vs)
    (hm : Nat.beq vs.length m = true) (h1 : oneN vs = true) (hl : setN i l vs = some l') (h : TL r n P ops rest ⟨D, E, cells b l' tt :: R⟩ K) : TL r n P ops (⟨none, .store t x y, ty, pos, af, none⟩ :: rest) ⟨D, E, L⟩ K :=
  TL_skip rfl rfl (fun _ e => by cases e) fun W a w hh => by
    have hsat := hh.2.gives hc.g
    refine ⟨.skip, w.setRow b l'.toArray, cells b l' tt :: R, ?_, .inl rfl, hsat.setRow, h⟩
    simp only [execOp, hh.1.ev hx, hh.1.ev hy, Instr.storeAt, Instr.sureAddr, Sem.run_bind, Sem.run_pure, Result.andThen_ok, run_storeVar hsat hp hm h1 hl]

/-! ### Values of several cells -/
/-! ### Functions and calls -/
def RetQ (P : Program) (fn : Func) (Φ : Value → List HP → Prop) : Exit → St → Prop
  | .ret, s => s.D = [] ∧ ∃ v L', Φ v L' ∧ ∀ n W a w, Holds n W s a w → Sat W w L' ∧ (results fn a.tmps).run P w = .ok v w
  | .normal, s => s.D = [] ∧ ∃ v L', Φ v L' ∧ ∀ n W a w, Holds n W s a w → Sat W w L' ∧ (results fn a.tmps).run P w = .ok v w
  | _, _ => False
theorem Fn_enter {f : FuncId} {fn : Func} {c : Code} {args : List Value} {E0 : Env} {Φ : Value → List HP → Prop} (hf : P.funcs[f]? = some fn) (hb : fn.body = some c) (hn : fn.ntmps = n) (hE : envO 0 args = some E0) (hl : Nat.ble args.length n = true)
    (h : T none n P c ⟨[], E0, L⟩ (RetQ P fn Φ)) : Fn P f args.toArray L Φ := fun W w hs => by
  refine callsIn_wide.1 (callsIn_of_wp (F := Fence.wide) (n := 0) hf hb trivial ?_)
  have hsz : args.length ≤ n := by simpa using hl
  have hview : View n [] { tmps := args.toArray ++ Array.replicate (fn.ntmps - args.toArray.size) undef, defers := [] } E0 := by
    refine ⟨by simp [hn]; omega, rfl, fun j v hv => ?_⟩
    obtain ⟨_, h2⟩ := envO_look hE j v hv
    simp only [Nat.sub_zero] at h2
    have hj : j < args.length := (List.getElem?_eq_some_iff.1 h2).1
    simp [Array.getElem?_append, hj]
    simpa [List.getElem?_eq_getElem hj] using h2
  refine wpIn_mono (h W _ w ⟨hview, hs⟩) ?_
  rintro e a' w' ⟨s', q, hk⟩
  cases e <;> simp only [RetQ] at q
  case normal =>
    obtain ⟨hD, v, L', hΦ, hr⟩ := q
    obtain ⟨h1, h2⟩ := hr _ _ _ _ hk
    exact ⟨hk.1.defers.trans hD, v, h2, v, L', rfl, hΦ, h1⟩
  case ret =>
    obtain ⟨hD, v, L', hΦ, hr⟩ := q
    obtain ⟨h1, h2⟩ := hr _ _ _ _ hk
    exact ⟨hk.1.defers.trans hD, v, h2, v, L', rfl, hΦ, h1⟩
def resSem (tmps : Array Value) : ResultVar → Sem Value
  | .tmp t => Pure.pure (tmps.getD t undef)
  | .cell c t => do loadVar t (← asAddr (tmps.getD c undef))
theorem results_eq (fn : Func) (tmps : Array Value) : results fn tmps = (do let vs ← fn.results.mapM (resSem tmps); Pure.pure (if h : vs.size = 1 then vs[0] else .tuple vs)) := rfl
/-- A result is reckoned so. -/
def ResV (P : Program) (E : Env) (L : List HP) (x : ResultVar) (v : Value) : Prop :=
  ∀ n D W a w, Holds n W ⟨D, E, L⟩ a w → (resSem a.tmps x).run P w = .ok v w
theorem ResV.tmp {t : Tmp} {v : Value} (h : look E t = some v) : ResV P E L (.tmp t) v := fun n D W a w hh => by
  have := hh.1.get t v h
  simp [resSem, this]
theorem ResV.cell {c b : Nat} {t tt : TypeId} {l : List Value} {v : Value} {R : List HP} [TyAgg P t false] (h : look E c = some (.pointer (some ⟨b, 0, none⟩))) [hc : FindC L b l tt R] (hv : cellN l 0 = some v) : ResV P E L (.cell c t) v := fun n D W a w hh => by
  have := hh.1.get c _ h
  simp only [resSem, Array.getD_eq_getD_getElem?, this, Option.getD_some, asAddr, Sem.run_bind, Sem.run_pure, Result.andThen_ok, Sat.load_one (hh.2.gives hc.g) hv]
theorem ResV.agg {c b m : Nat} {t tt : TypeId} {l vs : List Value} {R : List HP} [TyAgg P t true] [TySize P t m] (h : look E c = some (.pointer (some ⟨b, 0, none⟩))) [hc : FindC L b l tt R] (hv : cutN 0 m l = some vs) : ResV P E L (.cell c t) (.agg vs.toArray) := fun n D W a w hh => by
  have := hh.1.get c _ h
  simp only [resSem, Array.getD_eq_getD_getElem?, this, Option.getD_some, asAddr, Sem.run_bind, Sem.run_pure, Result.andThen_ok, Sat.load_agg (hh.2.gives hc.g) hv]
section rets
variable {fn : Func} {Φ : Value → List HP → Prop} {x y z : ResultVar} {u v t : Value} {e : Exit}
theorem Ret_0 (he : e = .ret ∨ e = .normal) (hr : fn.results = #[]) (h : Φ (.tuple #[]) L) : RetQ P fn Φ e ⟨[], E, L⟩ := by
  have key : ∃ v L', Φ v L' ∧ ∀ n W a w, Holds n W ⟨[], E, L⟩ a w → Sat W w L' ∧ (results fn a.tmps).run P w = .ok v w := ⟨_, L, h, fun n W a w hh => ⟨hh.2, by simp [results, hr]⟩⟩
  rcases he with rfl | rfl <;> exact ⟨rfl, key⟩
theorem Ret_1 (he : e = .ret ∨ e = .normal) (hr : fn.results = #[x]) (hx : ResV P E L x v) (h : Φ v L) : RetQ P fn Φ e ⟨[], E, L⟩ := by
  have key : ∃ v L', Φ v L' ∧ ∀ n W a w, Holds n W ⟨[], E, L⟩ a w → Sat W w L' ∧ (results fn a.tmps).run P w = .ok v w := ⟨_, L, h, fun n W a w hh => ⟨hh.2, by
    rw [results_eq, hr]; simp [hx n [] W a w hh]⟩⟩
  rcases he with rfl | rfl <;> exact ⟨rfl, key⟩
theorem RetQ.gives (g : Gives L L') (h : RetQ P fn Φ e ⟨D, E, L'⟩) : RetQ P fn Φ e ⟨D, E, L⟩ := by
  cases e <;> simp only [RetQ] at h ⊢
  case ret => exact ⟨h.1, let ⟨v, L1, a, b⟩ := h.2; ⟨v, L1, a, fun n W a w hh => b n W a w (hh.gives g)⟩⟩
  case normal => exact ⟨h.1, let ⟨v, L1, a, b⟩ := h.2; ⟨v, L1, a, fun n W a w hh => b n W a w (hh.gives g)⟩⟩
end rets

theorem Fn.into {f : FuncId} {args : Array Value} {Φ : Value → List HP → Prop} {W w : World} (h : Fn P f args L Φ) (hs : Sat W w L) : CallsIn (Fw r) 0 P f args w fun e w' => ∃ v L', e = .returned v ∧ Φ v L' ∧ Sat W w' L' := callsIn_wide.2 (h W w hs)
theorem TL_enter {op : Op} {f : FuncId} {args : Array Value} {Φ : Value → List HP → Prop} (hd : Nat.blt d n = true) (hnd : ∀ c, op ≠ .defer c) (hop : ∀ a w, View n D a E → (execOp a.eval ⟨some d, op, ty, pos, af, none⟩).run P w = .ok (.enter f args) w)
    (spec : Fn P f args L Φ) (h : ∀ v L', Φ v L' → TL r n P ops rest ⟨D, (d, v) :: E, L'⟩ K) : TL r n P ops (⟨some d, op, ty, pos, af, none⟩ :: rest) ⟨D, E, L⟩ K := fun W a w hh => by
  refine wpListIn_plain rfl fun K' hK => ⟨fun _ _ => trivial, ?_⟩
  rw [Oper.semAt_eq _ _ _ hnd, hop a w hh.1]
  refine ⟨fun hx => by simp at hx, (spec.into hh.2).mono ?_⟩
  rintro e w' ⟨v, L', rfl, hΦ, hs⟩
  exact hK _ _ (h v L' hΦ W _ _ ⟨hh.1.put (by simpa using hd) v, hs⟩)
theorem run_call {f : FuncId} [hc : IsCall P f] {xs : List Operand} {vs : List Value} {ts : Array TypeId} {a : Act} {w : World} {dst : Option Tmp} (ha : View n D a E) (hx : evl E xs = some vs) :
    (execOp a.eval ⟨dst, .call { callee := .value (.func f), args := xs.toArray, argTypes := ts }, ty, pos, af, none⟩).run P w = .ok (.enter f vs.toArray) w := by
  simp [execOp, resolve, invoke, Act.eval, Deferred.ofValue, ha.evl hx, hc.run]
theorem TL_call {f : FuncId} [hc : IsCall P f] {xs : List Operand} {vs : List Value} {ts : Array TypeId} {Φ : Value → List HP → Prop} (hd : Nat.blt d n = true) (hx : evl E xs = some vs) (spec : Fn P f vs.toArray L Φ) (h : ∀ v L', Φ v L' → TL r n P ops rest ⟨D, (d, v) :: E, L'⟩ K) :
    TL r n P ops (⟨some d, .call { callee := .value (.func f), args := xs.toArray, argTypes := ts }, ty, pos, af, none⟩ :: rest) ⟨D, E, L⟩ K :=
  TL_enter hd (fun _ e => by cases e) (fun a w ha => run_call ha hx) spec h
theorem run_call_fn {f : FuncId} [hc : IsCall P f] {c : Operand} {xs : List Operand} {vs fs cs : List Value} {ts : Array TypeId} {a : Act} {w : World} {dst : Option Tmp} (ha : View n D a E) (hf : ev E c = some (.func (.func f) fs.toArray cs.toArray)) (hx : evl E xs = some vs) :
    (execOp a.eval ⟨dst, .call { callee := .value c, args := xs.toArray, argTypes := ts }, ty, pos, af, none⟩).run P w = .ok (.enter f (fs ++ vs ++ cs).toArray) w := by
  simp [execOp, resolve, invoke, ha.ev hf, Deferred.ofValue, ha.evl hx, hc.run]
/-- A function value is called. -/
theorem TL_call_fn {f : FuncId} [hc : IsCall P f] {c : Operand} {xs : List Operand} {vs fs cs : List Value} {ts : Array TypeId} {Φ : Value → List HP → Prop} (hd : Nat.blt d n = true) (hf : ev E c = some (.func (.func f) fs.toArray cs.toArray)) (hx : evl E xs = some vs) (spec : Fn P f (fs ++ vs ++ cs).toArray L Φ)
    (h : ∀ v L', Φ v L' → TL r n P ops rest ⟨D, (d, v) :: E, L'⟩ K) : TL r n P ops (⟨some d, .call { callee := .value c, args := xs.toArray, argTypes := ts }, ty, pos, af, none⟩ :: rest) ⟨D, E, L⟩ K :=
  TL_enter hd (fun _ e => by cases e) (fun a w ha => run_call_fn ha hf hx) spec h
end
end Go.SL
set_option linter.unusedVariables false
set_option linter.unusedSimpArgs false
namespace Go.SL
open Go

def depsOf (o : Oper) : List Nat := (o.after.toList.filter (Region.binds .any)).map (·.on)
def isCallOp : Op → Bool
  | .call { callee := .builtin _, .. } => false
  | .call _ => true
  | _ => false
def maskOf (B : List Nat) : List Nat → Nat
  | [] => 0
  | e :: r => Nat.lor (Nat.lor (2 ^ e) (B.getD e 0)) (maskOf B r)
/-- With the edges of X (from, to) besides. -/
def depsX (X : List (Nat × Nat)) (j : Nat) (o : Oper) : List Nat := depsOf o ++ (X.filter fun e => Nat.beq e.2 j).map (·.1)
def masksOk (X : List (Nat × Nat)) (B : List Nat) : List Oper → Nat → Bool
  | [], _ => true
  | o :: r, j => (B.getD j 0 == maskOf B (depsX X j o)) && (depsOf o).all (fun e => Nat.blt e j) && plainOp o.op && masksOk X B r (j + 1)
def orderOk (X : List (Nat × Nat)) (ops : Array Oper) (B tl : List Nat) : List Nat → List (Nat × Bool) → Bool
  | _, [] => true
  | done, (i, fl) :: π => (match ops[i]? with
      | none => false
      | some o => (depsX X i o).all (fun e => done.contains e) && (if fl then tl.all (fun t => (B.getD t 0).testBit i) && π.all (fun j => (B.getD j.1 0).testBit i || (match ops[j.1]? with | some oj => o.apart ops oj | none => false)) else (!tl.contains i || π.all (fun j => !j.2)) && π.all (fun j => (B.getD j.1 0).testBit i))) && orderOk X ops B tl (i :: done) π
def nodupB : List Nat → Bool
  | [] => true
  | x :: r => !r.contains x && nodupB r
def regionOk (X : List (Nat × Nat)) (l : List Oper) (B tl : List Nat) (π : List (Nat × Bool)) : Bool :=
  masksOk X B l 0 && X.all (fun e => Nat.blt e.1 l.length) && orderOk X l.toArray B tl [] π && (List.range l.length).all (fun i => (π.map (·.1)).contains i) && (π.length == l.length) && nodupB (π.map (·.1))

/-! ### What the marks mean -/
theorem maskOf_bit {B : List Nat} : ∀ {es : List Nat} {i : Nat}, (maskOf B es).testBit i = true → ∃ e ∈ es, e = i ∨ (B.getD e 0).testBit i = true
  | [], i, h => by simp [maskOf] at h
  | e :: r, i, h => by
    simp only [maskOf] at h
    have h' : ((2 ^ e ||| B.getD e 0) ||| maskOf B r).testBit i = true := h
    rw [Nat.testBit_or, Nat.testBit_or, Bool.or_eq_true, Bool.or_eq_true] at h'
    rcases h' with (h' | h') | h'
    · refine ⟨e, List.mem_cons_self, .inl ?_⟩
      rw [Nat.testBit_two_pow] at h'
      simpa using h'
    · exact ⟨e, List.mem_cons_self, .inr h'⟩
    · obtain ⟨e', h1, h2⟩ := maskOf_bit h'
      exact ⟨e', List.mem_cons_of_mem _ h1, h2⟩
theorem masksOk_at {X : List (Nat × Nat)} {B : List Nat} : ∀ {l : List Oper} {k : Nat}, masksOk X B l k = true → ∀ {j : Nat} {o : Oper}, l[j]? = some o → B.getD (k + j) 0 = maskOf B (depsX X (k + j) o) ∧ (∀ e ∈ depsOf o, e < k + j) ∧ plainOp o.op = true
  | [], _, _, j, o, h => by simp at h
  | x :: r, k, h, 0, o, ho => by
    simp only [masksOk, Bool.and_eq_true, beq_iff_eq, List.all_eq_true] at h
    simp at ho
    subst ho
    exact ⟨h.1.1.1, fun e he => by simpa using h.1.1.2 e he, h.1.2⟩
  | x :: r, k, h, j + 1, o, ho => by
    simp only [masksOk, Bool.and_eq_true] at h
    have := masksOk_at h.2 (j := j) (by simpa using ho)
    rw [show k + (j + 1) = k + 1 + j by omega]
    exact this
/-- A schedule that keeps to the edges. -/
def VS (X : List (Nat × Nat)) (ops : Array Oper) : (Nat → Prop) → List Nat → Prop
  | _, [] => True
  | done, j :: r => (∀ o, ops[j]? = some o → ∀ e ∈ depsX X j o, done e) ∧ VS X ops (fun i => i = j ∨ done i) r
theorem deps_lt {X : List (Nat × Nat)} {B : List Nat} {l : List Oper} (hm : masksOk X B l 0 = true) (hX : ∀ e ∈ X, e.1 < l.length) {j : Nat} {o : Oper} (ho : l[j]? = some o) : ∀ e ∈ depsX X j o, e < l.length := fun e he => by
  have hj := (List.getElem?_eq_some_iff.1 ho).1
  rcases List.mem_append.1 he with he | he
  · have := (masksOk_at hm ho).2.1 e he
    omega
  · obtain ⟨x, hx, rfl⟩ := List.mem_map.1 he
    exact hX x (List.mem_filter.1 hx).1
theorem VS.mono {X : List (Nat × Nat)} {ops : Array Oper} : ∀ {l : List Nat} {p q : Nat → Prop}, (∀ i, p i → q i) → VS X ops p l → VS X ops q l
  | [], _, _, _, _ => trivial
  | j :: r, p, q, h, ⟨h1, h2⟩ => ⟨fun o ho e he => h _ (h1 o ho e he), VS.mono (fun i hi => hi.imp id (h i)) h2⟩
/-- Number i may be taken out to the front. -/
theorem VS.take {X : List (Nat × Nat)} {ops : Array Oper} : ∀ {s1 s2 : List Nat} {i : Nat} {p : Nat → Prop}, VS X ops p (s1 ++ i :: s2) → VS X ops (fun k => k = i ∨ p k) (s1 ++ s2)
  | [], s2, i, p, h => h.2
  | j :: s1, s2, i, p, h => ⟨fun o ho e he => .inr (h.1 o ho e he), (VS.take h.2).mono fun k hk => by
      rcases hk with h | h | h
      · exact .inr (.inl h)
      · exact .inl h
      · exact .inr (.inr h)⟩
/-- What i is an ancestor of comes behind i. -/
theorem VS.anc {X : List (Nat × Nat)} {l : List Oper} {B : List Nat} (hm : masksOk X B l 0 = true) (hX : ∀ e ∈ X, e.1 < l.length) {s : List Nat} {i : Nat} {p : Nat → Prop} (hv : VS X l.toArray p s) (hi : i ∉ s) (hp : ¬ p i) (hpc : ∀ j, p j → ∀ o, l[j]? = some o → (B.getD j 0).testBit i = false) : ∀ j ∈ s, ∀ o, l[j]? = some o → (B.getD j 0).testBit i = false := by
  induction s generalizing p with
  | nil => intro j hj; cases hj
  | cons k r ih =>
    have hk : ∀ o, l[k]? = some o → (B.getD k 0).testBit i = false := by
      intro o ho
      obtain ⟨hB, hlt, _⟩ := masksOk_at hm ho
      cases hb : (B.getD k 0).testBit i with
      | false => rfl
      | true =>
        rw [Nat.zero_add] at hB
        rw [hB] at hb
        obtain ⟨e, he, h⟩ := maskOf_bit hb
        have hdone := hv.1 o (by simpa using ho) e he
        rcases h with rfl | h
        · exact absurd hdone hp
        · have hel : e < l.length := deps_lt hm hX ho e (by simpa using he)
          rw [hpc e hdone _ (List.getElem?_eq_getElem hel)] at h
          cases h
    intro j hj o ho
    rcases List.mem_cons.1 hj with rfl | hj
    · exact hk o ho
    · refine ih hv.2 (fun h => hi (List.mem_cons_of_mem _ h)) (fun h => ?_) (fun m hm' o' ho' => ?_) j hj o ho
      · rcases h with h | h
        · exact hi (by rw [h]; exact List.mem_cons_self)
        · exact hp h
      · rcases hm' with rfl | hm'
        · exact hk o' ho'
        · exact hpc m hm' o' ho'

theorem orderOk_mem {X : List (Nat × Nat)} {ops : Array Oper} {B tl : List Nat} : ∀ {π : List (Nat × Bool)} {done : List Nat}, orderOk X ops B tl done π = true → ∀ j ∈ π.map (·.1), ∃ o, ops[j]? = some o
  | [], _, _, j, hj => by cases hj
  | (i, fl) :: π, done, h, j, hj => by
    simp only [orderOk, Bool.and_eq_true] at h
    simp only [List.map_cons, List.mem_cons] at hj
    rcases hj with rfl | hj
    · cases ho : ops[j]? with
      | none => rw [ho] at h; simp at h
      | some o => exact ⟨o, rfl⟩
    · exact orderOk_mem h.2 j hj
theorem nodupB_eq : ∀ {l : List Nat}, nodupB l = true → l.Nodup
  | [], _ => List.nodup_nil
  | x :: r, h => by
    simp only [nodupB, Bool.and_eq_true] at h
    exact List.nodup_cons.2 ⟨by simpa using h.1, nodupB_eq h.2⟩

/-! ### The judgement -/
section
variable {r : Option Nat} {n : Nat} {P : Program} {ops : Array Oper} {D : List Deferred} {E : Env} {L L' Fl : List HP} {tl : List Nat}

/-- What becomes of an operation that only reckons: it comes to v, or its guard is false. -/
def FloatAt (P : Program) (ops : Array Oper) (E : Env) (Fl : List HP) (o : Oper) (v : Value) : Prop :=
  (o.guard = none ∧ Yl P E Fl o.op o.type v) ∨
  (∃ j want g b, o.guard = some (j, want) ∧ (ops[j]?).bind (·.dst) = some g ∧ look E g = some (.bool b) ∧ ((b = want ∧ Yl P E Fl o.op o.type v) ∨ ((b == want) = false ∧ v = undef))) ∨
  (∃ j want g, o.guard = some (j, want) ∧ (ops[j]?).bind (·.dst) = some g ∧ look E g = some undef ∧ v = undef)
theorem wanted_undef {o : Oper} {j g : Nat} {want : Bool} {n : Nat} {D : List Deferred} {E : Env} {ops : Array Oper} {a : Act} (hg : o.guard = some (j, want)) (hgs : (ops[j]?).bind (·.dst) = some g) (hl : look E g = some undef) (hv : View n D a E) : Region.wanted o (yielded ops a.tmps) = false := by
  simp only [Region.wanted, yielded, hg, hgs, Option.bind_some, hv.get g _ hl]
  rfl
def TF (r : Option Nat) (n : Nat) (P : Program) (ops : Array Oper) (tl : List Nat) (Fl : List HP) : List (Nat × Bool) → St → (St → Prop) → Prop
  | [], s, K => ∃ s', (∀ W a w, Holds n W s a w → Holds n W s' a w) ∧ K s'
  | (i, true) :: π, s, K => ∃ o d v, ops[i]? = some o ∧ o.dst = some d ∧ Nat.blt d n = true ∧ FloatAt P ops s.E Fl o v ∧ TF r n P ops tl Fl π ⟨s.D, (d, v) :: s.E, s.L⟩ K
  | (i, false) :: π, s, K => ∃ o, ops[i]? = some o ∧ TL r n P ops [o] s (fun s' => (tl.contains i = true ∨ Gives s'.L Fl) ∧ TF r n P ops tl Fl π s' K)

def wpF (r : Option Nat) (n : Nat) (P : Program) (ops : Array Oper) (tl : List Nat) (Fl : List HP) (W : World) (K : St → Prop) : List Nat → Act → World → Prop
  | [], a, w => ∃ s', K s' ∧ Holds n W s' a w
  | i :: s, a, w => wpOpIn (Fw r) 0 P ops (fun _ _ _ => False) i (fun a' w' => (tl.contains i = false → Sat W w' Fl) ∧ wpF r n P ops tl Fl W K s a' w') a w

theorem wpOpIn_out {Q : Exit → Act → World → Prop} {i : Nat} {K K' : Act → World → Prop} (h : ∀ a w, K a w → K' a w) {a : Act} {w : World} (hh : wpOpIn (Fw r) 0 P ops (fun _ _ _ => False) i K a w) : wpOpIn (Fw r) 0 P ops Q i K' a w := by
  unfold wpOpIn at *
  split
  · rename_i ho; simp only [ho] at hh; exact h _ _ hh
  · rename_i o ho
    simp only [ho] at hh
    split
    · rename_i hw; simp only [hw, if_true] at hh; exact ⟨hh.1, uponIn_mono h (fun _ _ _ hf => hf.elim) (fun ⟨_, _, hf⟩ => hf.elim) _ hh.2⟩
    · rename_i hw; simp only [hw] at hh; exact ⟨hh.1, h _ _ hh.2⟩
theorem wpF_ops {W : World} {K : St → Prop} {Q : Exit → Act → World → Prop} (hq : ∀ a w s', K s' → Holds n W s' a w → Q .normal a w) : ∀ (s : List Nat) (a : Act) (w : World), wpF r n P ops tl Fl W K s a w → wpOpsIn (Fw r) 0 P ops Q s a w
  | [], a, w, ⟨s', hk, hh⟩ => hq a w s' hk hh
  | i :: s, a, w, h => by
    rw [wpOpsIn_cons]
    exact wpOpIn_out (fun a w h => wpF_ops hq s a w h.2) h

/-- What a float needs of the slots. -/
def Same (ops : Array Oper) (o : Oper) (a a' : Act) : Prop := execOp a'.eval o = execOp a.eval o ∧ Region.wanted o (yielded ops a'.tmps) = Region.wanted o (yielded ops a.tmps)
/-- At whatever world where Fl holds: the float's own step. -/
def FloatRuns (r : Option Nat) (P : Program) (ops : Array Oper) (Fl : List HP) (W : World) (i : Nat) (o : Oper) (v : Value) (a : Act) : Prop :=
  ∀ w, Sat W w Fl → (Region.wanted o (yielded ops a.tmps) = true ∧ (execOp a.eval o).run P w = .ok (.value v) w) ∨ (Region.wanted o (yielded ops a.tmps) = false ∧ v = undef)
theorem FloatRuns.of {o : Oper} {v : Value} {W : World} {i : Nat} (hf : FloatAt P ops E Fl o v) {a : Act} (hv : View n D a E) : FloatRuns r P ops Fl W i o v a := fun w hs => by
  have run : Yl P E Fl o.op o.type v → (execOp a.eval o).run P w = .ok (.value v) w := fun hy => by
    have := hy n D W a w o.dst o.pos o.after o.guard hv hs
    have e : (⟨o.dst, o.op, o.type, o.pos, o.after, o.guard⟩ : Oper) = o := by cases o; rfl
    rwa [e] at this
  rcases hf with ⟨hg, hy⟩ | ⟨j, want, g, b, hg, hgs, hl, h⟩ | ⟨j, want, g, hg, hgs, hl, rfl⟩
  rotate_left 2
  · exact .inr ⟨wanted_undef hg hgs hl hv, rfl⟩
  · exact .inl ⟨by simp [Region.wanted, hg], run hy⟩
  · have hy' : yielded ops a.tmps j = some b := by simp [yielded, hgs, hv.get g _ hl]
    rcases h with ⟨rfl, hy⟩ | ⟨hb, rfl⟩
    · exact .inl ⟨by simp [Region.wanted, hg, hy'], run hy⟩
    · exact .inr ⟨by simp only [Region.wanted, hg, hy']; simpa using hb, rfl⟩
theorem FloatRuns.same {o : Oper} {v : Value} {W : World} {i : Nat} {a a' : Act} (h : FloatRuns r P ops Fl W i o v a) (hs : Same ops o a a') : FloatRuns r P ops Fl W i o v a' := fun w hw => by
  rw [hs.1, hs.2]
  exact h w hw
theorem FloatRuns.step {o : Oper} {v : Value} {W : World} {i : Nat} {a : Act} (h : FloatRuns r P ops Fl W i o v a) (hi : ops[i]? = some o) (hnd : plainOp o.op = true) {w : World} (hs : Sat W w Fl) {K : Act → World → Prop} (hk : K (a.put o.dst v) w) :
    wpOpIn (Fw r) 0 P ops (fun _ _ _ => False) i K a w := by
  have hd : ∀ c, o.op ≠ .defer c := fun c e => by rw [e] at hnd; cases hnd
  unfold wpOpIn
  simp only [hi]
  rcases h w hs with ⟨hw, hr⟩ | ⟨hw, rfl⟩
  · rw [if_pos hw]
    refine ⟨fun _ _ => trivial, ?_⟩
    rw [Oper.semAt_eq _ _ _ hd, hr]
    exact hk
  · rw [if_neg (by rw [hw]; simp)]
    exact ⟨fun _ _ => trivial, hk⟩

theorem plain_sel {o : Oper} (h : plainOp o.op = true) : ∀ cs b, o.op ≠ .select cs b := fun cs b e => by rw [e] at h; cases h
theorem plain_def {o : Oper} (h : plainOp o.op = true) : ∀ c, o.op ≠ .defer c := fun c e => by rw [e] at h; cases h
/-- A float's slot being filled ahead changes nothing for an operation apart from it. -/
theorem put_step {j : Nat} {oi oj : Oper} {v : Value} (hj : ops[j]? = some oj) (hap : oi.apart ops oj = true) (hpi : plainOp oi.op = true) (hpj : plainOp oj.op = true) {K K' : Act → World → Prop} {a : Act} {w : World}
    (hK : ∀ a' w', Same ops oi a a' → K (a'.put oi.dst v) w' → K' a' w') (h : wpOpIn (Fw r) 0 P ops (fun _ _ _ => False) j K (a.put oi.dst v) w) : wpOpIn (Fw r) 0 P ops (fun _ _ _ => False) j K' a w := by
  obtain ⟨h1, h2, h3⟩ := Oper.apart_spec hap
  have keep : ∀ u, Same ops oi a (a.put oj.dst u) := fun u => ⟨execOp_put oi (plain_sel hpi) a oj.dst u h3, wanted_put oi a oj.dst u h3⟩
  have hd := plain_def hpj
  unfold wpOpIn at *
  simp only [hj] at *
  rw [wanted_put oj a oi.dst v h1] at h
  split
  · rename_i hw
    simp only [hw, if_true] at h
    refine ⟨fun _ _ => trivial, ?_⟩
    have h := h.2
    rw [Oper.semAt_eq _ _ _ hd, execOp_put oj (plain_sel hpj) a oi.dst v h1] at h
    rw [Oper.semAt_eq _ _ _ hd]
    generalize hres : (execOp a.eval oj).run P w = x at *
    cases x with
    | ok x w' =>
      cases x <;> simp only [Oper.uponIn] at h ⊢
      case value u => exact hK _ _ (keep u) (by rw [← Act.put_comm a v u h2]; exact h)
      case skip => exact hK _ _ (keep _) (by rw [← Act.put_comm a v undef h2]; exact h)
      case defer d =>
        refine hK _ _ ?_ ?_
        · have k := keep undef
          refine ⟨?_, ?_⟩
          · rw [← k.1]; cases oj.dst <;> rfl
          · rw [← k.2]; cases oj.dst <;> rfl
        · rw [← Act.put_comm _ v undef h2, ← Act.put_defers]; exact h
      case enter f args =>
        refine ⟨h.1, CallsIn.mono h.2 fun e w'' he => ?_⟩
        cases e with
        | returned u => exact hK _ _ (keep u) (by rw [← Act.put_comm a v u h2]; exact he)
        | panicked c => exact he.elim
        | outgrown => obtain ⟨_, _, he⟩ := he; exact he.elim
      case row row args => exact ⟨h.1, RowsIn.mono h.2 fun u w'' he => hK _ _ (keep u) (by rw [← Act.put_comm a v u h2]; exact he)⟩
      case round l f tmps assign body =>
        refine ⟨h.1, RoundIn.mono h.2 fun e w'' he => ?_⟩
        cases e with
        | returned u => exact hK _ _ (keep u) (by rw [← Act.put_comm a v u h2]; exact he)
        | panicked c => exact he.elim
        | outgrown => obtain ⟨_, _, he⟩ := he; exact he.elim
    | halt x w' => cases x <;> simp only [Oper.uponIn] at h ⊢
  · rename_i hw
    simp only [hw] at h
    exact ⟨fun _ _ => trivial, hK _ _ (keep undef) (by rw [← Act.put_comm a v undef h2]; exact h.2)⟩
/-- A float may come later. -/
theorem wpF_insert {W : World} {K : St → Prop} {i : Nat} {oi : Oper} {v : Value} (hi : ops[i]? = some oi) (hpi : plainOp oi.op = true) :
    ∀ (s1 s2 : List Nat) (a : Act) (w : World), (∀ j ∈ s1, ∃ oj, ops[j]? = some oj ∧ oi.apart ops oj = true ∧ plainOp oj.op = true ∧ tl.contains j = false) → FloatRuns r P ops Fl W i oi v a → Sat W w Fl →
      wpF r n P ops tl Fl W K (s1 ++ s2) (a.put oi.dst v) w → wpF r n P ops tl Fl W K (s1 ++ i :: s2) a w
  | [], s2, a, w, _, hf, hs, h => hf.step hi hpi hs ⟨fun _ => hs, h⟩
  | j :: s1, s2, a, w, hap, hf, hs, h => by
    obtain ⟨oj, hj, h1, h2, h3⟩ := hap j List.mem_cons_self
    refine put_step hj h1 hpi h2 ?_ h
    rintro a' w' hsame ⟨hs', h'⟩
    exact ⟨hs', wpF_insert hi hpi s1 s2 a' w' (fun k hk => hap k (List.mem_cons_of_mem _ hk)) (hf.same hsame) (hs' h3) h'⟩

theorem TL_one_wp {i : Nat} {o : Oper} {s : St} {K : St → Prop} {W : World} {a : Act} {w : World} (hi : ops[i]? = some o) (h : TL r n P ops [o] s K) (hh : Holds n W s a w) {K' : Act → World → Prop} (hk : ∀ a w s', K s' → Holds n W s' a w → K' a w) :
    wpOpIn (Fw r) 0 P ops (fun _ _ _ => False) i K' a w := by
  have := h W a w hh
  simp only [wpListIn] at this
  unfold wpOpIn
  simp only [hi]
  split
  · rename_i hw
    rw [if_pos hw] at this
    exact ⟨fun _ _ => trivial, uponIn_mono (fun a w ⟨_, s', k, hh⟩ => hk a w s' k hh) (fun c a w h => by cases h.1) (fun ⟨_, _, h⟩ => by cases h.1) _ this.2⟩
  · rename_i hw
    rw [if_neg hw] at this
    exact ⟨fun _ _ => trivial, let ⟨_, s', k, hh⟩ := this.2; hk _ _ s' k hh⟩

/-- The judgement tells every schedule. -/
theorem TF_sound {X : List (Nat × Nat)} {l : List Oper} {B tl : List Nat} {K : St → Prop} {W : World} (hm : masksOk X B l 0 = true) (hX : ∀ e ∈ X, e.1 < l.length) : ∀ (π : List (Nat × Bool)) (done : List Nat) (sched : List Nat) (s : St) (a : Act) (w : World), (π.map (·.1)).Nodup → orderOk X l.toArray B tl done π = true →
    (∀ i ∈ sched, i ∈ π.map (·.1)) → (∀ i ∈ π.map (·.1), i ∈ sched) → sched.Nodup → sched.length = π.length → (∀ i ∈ done, i ∉ sched) → (∀ i ∈ done, ∀ m, (B.getD i 0).testBit m = true → m ∈ done) → VS X l.toArray (fun i => i ∈ done) sched →
    TF r n P l.toArray tl Fl π s K → Holds n W s a w → (π.any (·.2) = true → Sat W w Fl) → wpF r n P l.toArray tl Fl W K sched a w := by
  intro π
  induction π with
  | nil =>
    intro done sched s a w _ _ h1 _ _ _ _ _ _ hT hh _
    cases sched with
    | nil =>
      obtain ⟨s', h1, h2⟩ := hT
      exact ⟨s', h2, h1 W a w hh⟩
    | cons x r => have := h1 x List.mem_cons_self; cases this
  | cons p π ih =>
    obtain ⟨i, fl⟩ := p
    intro done sched s a w hπ hord h1 h2 hnd hlen hdone hcl hvs hT hh hs
    have him : i ∈ sched := h2 i (by simp)
    simp only [orderOk] at hord
    cases ho : l.toArray[i]? with
    | none => rw [ho] at hord; simp at hord
    | some o =>
      rw [ho] at hord
      simp only [Bool.and_eq_true, List.all_eq_true] at hord
      obtain ⟨⟨hdeps, hfl⟩, hrest⟩ := hord
      have hol : l[i]? = some o := by simpa using ho
      have hplain := (masksOk_at hm hol).2.2
      have hdo : ∀ e ∈ depsX X i o, e ∈ done := fun e he => by simpa using hdeps e he
      -- all that the done ones wait for is done
      have hcl' : ∀ k ∈ i :: done, ∀ m, (B.getD k 0).testBit m = true → m ∈ i :: done := by
        intro k hk m hb
        rcases List.mem_cons.1 hk with rfl | hk
        · have hB := (masksOk_at hm hol).1
          rw [Nat.zero_add] at hB
          rw [hB] at hb
          obtain ⟨e, he, h⟩ := maskOf_bit hb
          rcases h with rfl | h
          · exact List.mem_cons_of_mem _ (hdo e he)
          · exact List.mem_cons_of_mem _ (hcl e (hdo e he) m h)
        · exact List.mem_cons_of_mem _ (hcl k hk m hb)
      have hnb : ∀ j ∈ done, ∀ o', l[j]? = some o' → (B.getD j 0).testBit i = false := by
        intro j hj o' _
        cases hb : (B.getD j 0).testBit i with
        | false => rfl
        | true => exact absurd him (hdone i (hcl j hj i hb))
      obtain ⟨s1, s2, rfl⟩ := List.append_of_mem him
      have hi1 : i ∉ s1 := by
        intro h
        rw [List.nodup_append] at hnd
        exact hnd.2.2 i h i (by simp) rfl
      have hi2 : i ∉ s2 := by
        intro h
        rw [List.nodup_append] at hnd
        exact (List.nodup_cons.1 hnd.2.1).1 h
      have hvs1 : VS X l.toArray (fun k => k ∈ done) s1 := by
        clear ih hT hh hs h1 h2 hlen hdone hcl hcl' hnb hi1 hi2 hnd him
        have : ∀ (s1 s2 : List Nat) (p : Nat → Prop), VS X l.toArray p (s1 ++ s2) → VS X l.toArray p s1 := by
          intro s1
          induction s1 with
          | nil => intros; trivial
          | cons x r ih => intro s2 p h; exact ⟨h.1, ih s2 _ h.2⟩
        exact this s1 (i :: s2) _ hvs
      have hni : ¬ i ∈ done := fun h => hdone i h him
      have hanc := VS.anc hm hX hvs1 hi1 hni hnb
      have h1' : ∀ k ∈ s1 ++ s2, k ∈ π.map (·.1) := by
        intro k hk
        have : k ∈ s1 ++ i :: s2 := by
          rcases List.mem_append.1 hk with h | h
          · exact List.mem_append.2 (.inl h)
          · exact List.mem_append.2 (.inr (List.mem_cons_of_mem _ h))
        have := h1 k this
        simp only [List.map_cons, List.mem_cons] at this
        rcases this with rfl | h
        · rcases List.mem_append.1 hk with h | h
          · exact absurd h hi1
          · exact absurd h hi2
        · exact h
      have hnd' : (s1 ++ s2).Nodup := by
        rw [List.nodup_append] at hnd ⊢
        exact ⟨hnd.1, (List.nodup_cons.1 hnd.2.1).2, fun x hx y hy => hnd.2.2 x hx y (List.mem_cons_of_mem _ hy)⟩
      have hlen' : (s1 ++ s2).length = π.length := by simp at hlen ⊢; omega
      have hpi : i ∉ π.map (·.1) := (List.nodup_cons.1 (by simpa using hπ)).1
      have hπ' : (π.map (·.1)).Nodup := (List.nodup_cons.1 (by simpa using hπ)).2
      have hmem := orderOk_mem hrest
      have h2' : ∀ k ∈ π.map (·.1), k ∈ s1 ++ s2 := by
        intro k hk
        have := h2 k (by simp only [List.map_cons]; exact List.mem_cons_of_mem _ hk)
        rcases List.mem_append.1 this with h | h
        · exact List.mem_append.2 (.inl h)
        · rcases List.mem_cons.1 h with rfl | h
          · exact absurd hk hpi
          · exact List.mem_append.2 (.inr h)
      have hdone' : ∀ k ∈ i :: done, k ∉ s1 ++ s2 := by
        intro k hk
        rcases List.mem_cons.1 hk with rfl | hk
        · simp [hi1, hi2]
        · intro h
          refine hdone k hk ?_
          rcases List.mem_append.1 h with h | h
          · exact List.mem_append.2 (.inl h)
          · exact List.mem_append.2 (.inr (List.mem_cons_of_mem _ h))
      have hvs' : VS X l.toArray (fun k => k ∈ i :: done) (s1 ++ s2) := (VS.take hvs).mono fun k hk => by
        rcases hk with rfl | h
        · exact List.mem_cons_self
        · exact List.mem_cons_of_mem _ h
      cases fl with
      | true =>
        simp only [if_true, Bool.and_eq_true, List.all_eq_true, Bool.or_eq_true] at hfl
        obtain ⟨o', d, v, ho', hdst, hd, hf, hT'⟩ := hT
        rw [ho] at ho'; cases ho'
        have hs := hs (by simp)
        refine wpF_insert ho hplain s1 s2 a w (fun j hj => ?_) (FloatRuns.of hf hh.1) hs ?_
        · have hjp := h1' j (List.mem_append.2 (.inl hj))
          obtain ⟨⟨j', fj⟩, hjm, rfl⟩ := List.mem_map.1 hjp
          have hj2 := hfl.2 (j', fj) hjm
          cases hoj : l[j']? with
          | none =>
            obtain ⟨o2, ho2⟩ := hmem j' hjp
            simp [hoj] at ho2
          | some oj =>
            have hpj := (masksOk_at hm hoj).2.2
            rcases hj2 with h | h
            · rw [hanc j' hj oj hoj] at h; cases h
            · refine ⟨oj, by simpa using hoj, by simpa [hoj] using h, hpj, ?_⟩
              cases hc : tl.contains j' with
              | false => rfl
              | true =>
                have := hfl.1 j' (by simpa using hc)
                rw [hanc j' hj oj hoj] at this
                cases this
        · rw [hdst]
          exact ih (i :: done) (s1 ++ s2) _ _ w hπ' hrest h1' h2' hnd' hlen' hdone' hcl' hvs' hT' ⟨hh.1.put (by simpa using hd) v, hh.2⟩ (fun _ => hs)
      | false =>
        simp only [Bool.false_eq_true, if_false, Bool.and_eq_true, List.all_eq_true] at hfl
        obtain ⟨o', ho', hTL⟩ := hT
        rw [ho] at ho'; cases ho'
        have : s1 = [] := by
          cases s1 with
          | nil => rfl
          | cons j r1 =>
            exfalso
            have hjp := h1' j (by simp)
            obtain ⟨⟨j', fj⟩, hjm, rfl⟩ := List.mem_map.1 hjp
            have hb := hfl.2 (j', fj) hjm
            cases hoj : l[j']? with
            | none =>
              obtain ⟨o2, ho2⟩ := hmem j' hjp
              simp [hoj] at ho2
            | some oj => rw [hanc j' (by simp) oj hoj] at hb; cases hb
        subst this
        refine TL_one_wp ho hTL hh ?_
        rintro a' w' s' ⟨hg, hT'⟩ hh'
        have hs' : tl.contains i = false → Sat W w' Fl := fun hc => by
          rcases hg with h | h
          · rw [hc] at h; cases h
          · exact hh'.2.gives h
        have hs2 : π.any (·.2) = true → Sat W w' Fl := fun hany => by
          refine hs' ?_
          cases hc : tl.contains i with
          | false => rfl
          | true =>
            obtain ⟨j, hj, hj2⟩ := List.any_eq_true.1 hany
            have := hfl.1
            rw [hc] at this
            simp only [Bool.not_true, Bool.false_or, List.all_eq_true] at this
            have := this j hj
            rw [hj2] at this
            cases this
        exact ⟨hs', ih (i :: done) s2 s' a' w' hπ' hrest (by simpa using h1') (by simpa using h2') (by simpa using hnd') (by simpa using hlen') (by simpa using hdone') hcl' (by simpa using hvs') hT' hh' hs2⟩

/-! ### The schedules that the model draws -/
def unl (n : Nat) (b : Array Bool) : List Nat := (List.range n).filter fun i => !b.getD i true
theorem unl_set {N : Nat} {b : Array Bool} {i : Nat} (hb : b.size = N) (hi : i < N) (hf : b.getD i true = false) : (unl N (b.setIfInBounds i true)).length + 1 = (unl N b).length := by
  have hgen : ∀ (l : List Nat), l.Nodup → i ∈ l → (∀ j ∈ l, j < N) → ((l.filter fun j => !(b.setIfInBounds i true).getD j true).length + 1 = (l.filter fun j => !b.getD j true).length) := by
    intro l
    induction l with
    | nil => intro _ h; cases h
    | cons x r ih =>
      intro hnd hm hlt
      rw [List.nodup_cons] at hnd
      have hx : ∀ j, j ≠ i → (b.setIfInBounds i true).getD j true = b.getD j true := fun j hj => by
        simp only [Array.getD_eq_getD_getElem?, Array.getElem?_setIfInBounds_ne (Ne.symm hj)]
      rcases List.mem_cons.1 hm with rfl | hm
      · have h1 : (r.filter fun j => !(b.setIfInBounds i true).getD j true) = r.filter fun j => !b.getD j true := List.filter_congr fun j hj => by rw [hx j (fun e => hnd.1 (by rw [← e]; exact hj))]
        have h2 : (b.setIfInBounds i true).getD i true = true := by simp [Array.getD_eq_getD_getElem?, hb, hi]
        simp only [List.filter_cons, h2, hf, Bool.not_true, Bool.not_false, if_true, h1, List.length_cons]
        simp
      · have hne : x ≠ i := fun e => hnd.1 (by rw [e]; exact hm)
        have := ih hnd.2 hm (fun j hj => hlt j (List.mem_cons_of_mem _ hj))
        simp only [List.filter_cons, hx x hne]
        cases b.getD x true
        · simpa using this
        · simpa using this
  exact hgen (List.range N) List.nodup_range (List.mem_range.2 hi) (fun j hj => List.mem_range.1 hj)
theorem depsX_nil (j : Nat) (o : Oper) : depsX [] j o = depsOf o := by simp [depsX]
theorem sched_ok {X : List (Nat × Nat)} {l : List Oper} {B : List Nat} (hm : masksOk X B l 0 = true) : ∀ (fuel t : Nat) (b : Array Bool), b.size = l.length → (unl l.length b).length = fuel →
    VS [] l.toArray (fun i => b.getD i false = true) (Region.linearise.go .any l.toArray fuel t b []) ∧ (∀ i, i < l.length → b.getD i true = false → i ∈ Region.linearise.go .any l.toArray fuel t b []) ∧
      (Region.linearise.go .any l.toArray fuel t b []).Nodup ∧ (∀ i ∈ Region.linearise.go .any l.toArray fuel t b [], i < l.length ∧ b.getD i true = false) ∧ (Region.linearise.go .any l.toArray fuel t b []).length = fuel := by
  intro fuel
  induction fuel with
  | zero =>
    intro t b hb hu
    refine ⟨trivial, fun i hi hf => ?_, List.nodup_nil, (fun i hi => (by cases hi)), rfl⟩
    have : i ∈ unl l.length b := List.mem_filter.2 ⟨List.mem_range.2 hi, by simp [hf]⟩
    rw [List.eq_nil_of_length_eq_zero hu] at this
    cases this
  | succ fuel ih =>
    intro t b hb hu
    have hmemr : ∀ i, i ∈ Region.ready .any l.toArray b ↔ i < l.length ∧ b.getD i true = false ∧ ∃ o, l[i]? = some o ∧ ∀ e ∈ depsOf o, b.getD e false = true := by
      intro i
      unfold Region.ready
      rw [List.mem_filter, List.mem_range]
      simp only [List.size_toArray, Bool.and_eq_true, Bool.not_eq_true']
      constructor
      · rintro ⟨h1, h2, h3⟩
        refine ⟨h1, h2, l[i], List.getElem?_eq_getElem h1, fun e he => ?_⟩
        simp only [List.getElem?_toArray, List.getElem?_eq_getElem h1, Option.map_some, Option.getD_some] at h3
        unfold depsOf at he
        obtain ⟨x, hx, rfl⟩ := List.mem_map.1 he
        obtain ⟨hx1, hx2⟩ := List.mem_filter.1 hx
        rw [Array.all_eq_true_iff_forall_mem] at h3
        have := h3 x (by simpa using hx1)
        simpa [hx2] using this
      · rintro ⟨h1, h2, o, ho, h3⟩
        refine ⟨h1, h2, ?_⟩
        simp only [List.getElem?_toArray, ho, Option.map_some, Option.getD_some]
        rw [Array.all_eq_true_iff_forall_mem]
        intro x hx
        cases hbd : Region.binds .any x with
        | false => simp
        | true =>
          have := h3 x.on (List.mem_map.2 ⟨x, List.mem_filter.2 ⟨by simpa using hx, hbd⟩, rfl⟩)
          simpa using this
    have hne : Region.ready .any l.toArray b ≠ [] := by
      intro hnil
      have hex : ∃ i, i < l.length ∧ b.getD i true = false := by
        cases hun : unl l.length b with
        | nil => rw [hun] at hu; simp at hu
        | cons x r =>
          have : x ∈ unl l.length b := by rw [hun]; exact List.mem_cons_self
          obtain ⟨h1, h2⟩ := List.mem_filter.1 this
          exact ⟨x, List.mem_range.1 h1, by simpa using h2⟩
      have hmin : ∀ k i, i ≤ k → i < l.length → b.getD i true = false → ∃ i, i < l.length ∧ b.getD i true = false ∧ ∀ j, j < i → b.getD j true = true := by
        intro k
        induction k with
        | zero => intro i hi h1 h2; exact ⟨i, h1, h2, fun j hj => by omega⟩
        | succ k ihk =>
          intro i hi h1 h2
          by_cases hc : ∃ j, j < i ∧ b.getD j true = false
          · obtain ⟨j, h3, h4⟩ := hc
            exact ihk j (by omega) (by omega) h4
          · refine ⟨i, h1, h2, fun j hj => ?_⟩
            cases hbj : b.getD j true with
            | true => rfl
            | false => exact absurd ⟨j, hj, hbj⟩ hc
      obtain ⟨i, h1, h2⟩ := hex
      obtain ⟨i, h1, h2, h3⟩ := hmin i i (Nat.le_refl _) h1 h2
      have : i ∈ Region.ready .any l.toArray b := by
        rw [hmemr]
        refine ⟨h1, h2, l[i], List.getElem?_eq_getElem h1, fun e he => ?_⟩
        have hlt := (masksOk_at hm (List.getElem?_eq_getElem h1)).2.1 e he
        have := h3 e (by omega)
        have hel : e < b.size := by omega
        simp only [Array.getD_eq_getD_getElem?, Array.getElem?_eq_getElem hel, Option.getD_some] at this ⊢
        exact this
      rw [hnil] at this
      cases this
    simp only [Region.linearise.go]
    change _ ∧ _
    have hsel : ∃ i, (Region.ready .any l.toArray b)[t % (Region.ready .any l.toArray b).length]? = some i := by
      have hpos : 0 < (Region.ready .any l.toArray b).length := List.length_pos_iff.2 hne
      exact ⟨_, List.getElem?_eq_getElem (Nat.mod_lt _ hpos)⟩
    obtain ⟨i, hsi⟩ := hsel
    have hir := (hmemr i).1 (List.mem_of_getElem? hsi)
    obtain ⟨hil, hif, o, ho, hdeps⟩ := hir
    have hgo : (match (Region.ready .any l.toArray b)[t % (Region.ready .any l.toArray b).length]? with
        | some i => Region.linearise.go .any l.toArray fuel (t / (Region.ready .any l.toArray b).length) (b.setIfInBounds i true) [i]
        | none => [].reverse) = i :: Region.linearise.go .any l.toArray fuel (t / (Region.ready .any l.toArray b).length) (b.setIfInBounds i true) [] := by
      rw [hsi]
      simp only []
      rw [linearise_go_acc]
      simp
    have hu' := unl_set hb hil hif
    obtain ⟨k1, k2, k3, k4, k5⟩ := ih (t / (Region.ready .any l.toArray b).length) (b.setIfInBounds i true) (by simpa using hb) (by omega)
    have hset : ∀ j, j ≠ i → ∀ d, (b.setIfInBounds i true).getD j d = b.getD j d := fun j hj d => by
      simp only [Array.getD_eq_getD_getElem?, Array.getElem?_setIfInBounds_ne (Ne.symm hj)]
    have hseti : ∀ d, (b.setIfInBounds i true).getD i d = true := fun d => by simp [Array.getD_eq_getD_getElem?, hb, hil]
    change VS [] l.toArray _ (match (Region.ready .any l.toArray b)[t % (Region.ready .any l.toArray b).length]? with
        | some i => Region.linearise.go .any l.toArray fuel (t / (Region.ready .any l.toArray b).length) (b.setIfInBounds i true) [i]
        | none => [].reverse) ∧ (∀ j, j < l.length → b.getD j true = false → j ∈ (match (Region.ready .any l.toArray b)[t % (Region.ready .any l.toArray b).length]? with
        | some i => Region.linearise.go .any l.toArray fuel (t / (Region.ready .any l.toArray b).length) (b.setIfInBounds i true) [i]
        | none => [].reverse)) ∧ (match (Region.ready .any l.toArray b)[t % (Region.ready .any l.toArray b).length]? with
        | some i => Region.linearise.go .any l.toArray fuel (t / (Region.ready .any l.toArray b).length) (b.setIfInBounds i true) [i]
        | none => [].reverse).Nodup ∧ (∀ j ∈ (match (Region.ready .any l.toArray b)[t % (Region.ready .any l.toArray b).length]? with
        | some i => Region.linearise.go .any l.toArray fuel (t / (Region.ready .any l.toArray b).length) (b.setIfInBounds i true) [i]
        | none => [].reverse), j < l.length ∧ b.getD j true = false) ∧ (match (Region.ready .any l.toArray b)[t % (Region.ready .any l.toArray b).length]? with
        | some i => Region.linearise.go .any l.toArray fuel (t / (Region.ready .any l.toArray b).length) (b.setIfInBounds i true) [i]
        | none => [].reverse).length = fuel + 1
    rw [hgo]
    refine ⟨⟨fun o' ho' e he => ?_, k1.mono fun j hj => ?_⟩, fun j hj hf => ?_, List.nodup_cons.2 ⟨fun h => ?_, k3⟩, fun j hj => ?_, by simp [k5]⟩
    · have : o' = o := by simpa [ho] using ho'.symm
      subst this
      exact hdeps e (by rw [depsX_nil] at he; exact he)
    · by_cases e : j = i
      · exact .inl e
      · right; show b.getD j false = true; rw [← hset j e]; exact hj
    · by_cases e : j = i
      · rw [e]; exact List.mem_cons_self
      · exact List.mem_cons_of_mem _ (k2 j hj (by rw [hset j e]; exact hf))
    · have := (k4 i h).2
      rw [hseti] at this
      cases this
    · rcases List.mem_cons.1 hj with rfl | hj
      · exact ⟨hil, hif⟩
      · have := k4 j hj
        refine ⟨this.1, ?_⟩
        by_cases e : j = i
        · subst e; rw [hseti] at this; exact absurd this.2 (by simp)
        · rw [← hset j e]; exact this.2
/-- A schedule that bears X meets one of the ends. -/
theorem region_run {X : List (Nat × Nat)} {l : List Oper} {s : St} {K : St → Prop} {W : World} (Fl : List HP) (B tl : List Nat) (π : List (Nat × Bool)) (hok : regionOk X l B tl π = true) (hFl : Gives s.L Fl) (h : TF r n P l.toArray tl Fl π s K)
    {sched : List Nat} {a : Act} {w : World} (hh : Holds n W s a w) (k1 : VS X l.toArray (fun i => (Array.replicate l.length false).getD i false = true) sched) (k2 : ∀ i, i < l.length → i ∈ sched) (k3 : sched.Nodup) (k4 : ∀ i ∈ sched, i < l.length) (k5 : sched.length = l.length) : wpF r n P l.toArray tl Fl W K sched a w := by
  simp only [regionOk, Bool.and_eq_true] at hok
  obtain ⟨⟨⟨⟨⟨h1, hX⟩, h2⟩, h3⟩, h4⟩, h5⟩ := hok
  have hX' : ∀ e ∈ X, e.1 < l.length := fun e he => by simpa using List.all_eq_true.1 hX e he
  have hlen : π.length = l.length := by simpa using h4
  refine TF_sound h1 hX' π [] _ s a _ (nodupB_eq h5) h2 (fun i hi => ?_) (fun i hi => ?_) k3 (by rw [k5, hlen]) (fun i hi => by cases hi) (fun i hi => by cases hi) (k1.mono fun i hi => ?_) h hh (fun _ => hh.2.gives hFl)
  · have := List.all_eq_true.1 h3 i (List.mem_range.2 (k4 i hi))
    simpa using this
  · obtain ⟨o, ho⟩ := orderOk_mem h2 i hi
    have hil : i < l.length := by
      have := (Array.getElem?_eq_some_iff.1 ho).1
      simpa using this
    exact k2 i hil
  · simp only [Array.getD_eq_getD_getElem?] at hi
    by_cases hil : i < l.length
    · simp [hil] at hi
    · simp [hil] at hi
theorem unl_all (l : List Oper) : (unl l.length (Array.replicate l.length false)).length = l.length := by
  unfold unl
  rw [List.filter_eq_self.2 (fun i hi => by simp [Array.getD_eq_getD_getElem?, List.mem_range.1 hi])]
  simp
theorem T_region_draw_last {id : Nat} {l : List Oper} {s : St} {Q : Exit → St → Prop} (Fl : List HP) (B tl : List Nat) (π : List (Nat × Bool)) (hmix : P.follows .mixedOrders = true) (hok : regionOk [] l B tl π = true) (hFl : Gives s.L Fl)
    (h : TF r n P l.toArray tl Fl π s (fun s' => Q .normal s')) : T r n P (.region id l.toArray true) s Q := fun W a w hh => by
  refine wpIn_region_draw fun t => ?_
  simp only [Region.schedule, hmix, Bool.true_or, if_true]
  have hm := hok
  simp only [regionOk, Bool.and_eq_true] at hm
  obtain ⟨k1, k2, k3, k4, k5⟩ := sched_ok hm.1.1.1.1.1 l.length t (Array.replicate l.length false) (by simp) (unl_all l)
  have hlin : Region.linearise .any l.toArray t = Region.linearise.go .any l.toArray l.length t (Array.replicate l.length false) [] := by
    simp [Region.linearise]
  rw [hlin]
  have hdrew : Holds n W s a { w with drawn := w.drawn + 1 } := ⟨hh.1, hh.2.drew⟩
  exact wpF_ops (fun a' w' s' hk hh' => ⟨s', hk, hh'⟩) _ _ _ (region_run Fl B tl π hok hFl h hdrew k1 (fun i hi => k2 i hi (by simp [Array.getD_eq_getD_getElem?, hi])) k3 (fun i hi => (k4 i hi).1) k5)
theorem order_or {i j : Nat} (hij : i ≠ j) : ∀ l : List Nat, (∀ s1 s2, l = s1 ++ j :: s2 → i ∈ s1) ∨ (∀ s1 s2, l = s1 ++ i :: s2 → j ∈ s1)
  | [] => .inl fun s1 s2 e => by cases s1 <;> cases e
  | x :: r => by
    by_cases hx : x = i
    · subst hx
      refine .inl fun s1 s2 e => ?_
      cases s1 with
      | nil => cases e; exact absurd rfl hij
      | cons y s1 => cases e; exact List.mem_cons_self
    · by_cases hy : x = j
      · subst hy
        refine .inr fun s1 s2 e => ?_
        cases s1 with
        | nil => cases e; exact absurd rfl hij
        | cons y s1 => cases e; exact List.mem_cons_self
      · rcases order_or hij r with h | h
        · refine .inl fun s1 s2 e => ?_
          cases s1 with
          | nil => cases e; exact absurd rfl hy
          | cons y s1 => cases e; exact List.mem_cons_of_mem _ (h s1 s2 rfl)
        · refine .inr fun s1 s2 e => ?_
          cases s1 with
          | nil => cases e; exact absurd rfl hx
          | cons y s1 => cases e; exact List.mem_cons_of_mem _ (h s1 s2 rfl)
theorem T_region_draw {id : Nat} {l : List Oper} {y : Code} {s : St} {Q : Exit → St → Prop} (Fl : List HP) (B tl : List Nat) (π : List (Nat × Bool)) (hmix : P.follows .mixedOrders = true) (hok : regionOk [] l B tl π = true) (hFl : Gives s.L Fl)
    (h : TF r n P l.toArray tl Fl π s (fun s' => T r n P y s' Q)) : T r n P (.seq (.region id l.toArray true) y) s Q := T_seq (T_region_draw_last Fl B tl π hmix hok hFl h)
theorem TF_nil {s : St} {K : St → Prop} (h : K s) : TF r n P ops tl Fl [] s K := ⟨s, fun _ _ _ h => h, h⟩
theorem TF_y {π : List (Nat × Bool)} {K : St → Prop} {i d : Nat} {op : Op} {ty : TypeId} {pos : String} {af : Array Edge} {v : Value} (ho : ops[i]? = some ⟨some d, op, ty, pos, af, none⟩) (hd : Nat.blt d n = true) (hy : Yl P E Fl op ty v) (h : TF r n P ops tl Fl π ⟨D, (d, v) :: E, L⟩ K) :
    TF r n P ops tl Fl ((i, true) :: π) ⟨D, E, L⟩ K := ⟨_, d, v, ho, rfl, hd, .inl ⟨rfl, hy⟩, h⟩
theorem TF_gy {π : List (Nat × Bool)} {K : St → Prop} {i d j g : Nat} {op : Op} {ty : TypeId} {pos : String} {af : Array Edge} {v : Value} {want : Bool} (ho : ops[i]? = some ⟨some d, op, ty, pos, af, some (j, want)⟩) (hg : (ops[j]?).bind (·.dst) = some g) (hl : look E g = some (.bool want)) (hd : Nat.blt d n = true) (hy : Yl P E Fl op ty v)
    (h : TF r n P ops tl Fl π ⟨D, (d, v) :: E, L⟩ K) : TF r n P ops tl Fl ((i, true) :: π) ⟨D, E, L⟩ K := ⟨_, d, v, ho, rfl, hd, .inr (.inl ⟨j, want, g, want, rfl, hg, hl, .inl ⟨rfl, hy⟩⟩), h⟩
theorem TF_gskip {π : List (Nat × Bool)} {K : St → Prop} {i d j g : Nat} {op : Op} {ty : TypeId} {pos : String} {af : Array Edge} {want b : Bool} (ho : ops[i]? = some ⟨some d, op, ty, pos, af, some (j, want)⟩) (hg : (ops[j]?).bind (·.dst) = some g) (hl : look E g = some (.bool b)) (hb : (b == want) = false) (hd : Nat.blt d n = true)
    (h : TF r n P ops tl Fl π ⟨D, (d, undef) :: E, L⟩ K) : TF r n P ops tl Fl ((i, true) :: π) ⟨D, E, L⟩ K := ⟨_, d, undef, ho, rfl, hd, .inr (.inl ⟨j, want, g, b, rfl, hg, hl, .inr ⟨hb, rfl⟩⟩), h⟩
theorem TF_anchor {π : List (Nat × Bool)} {K : St → Prop} {i : Nat} {o : Oper} {s : St} (ho : ops[i]? = some o) (h : TL r n P ops [o] s (fun s' => (tl.contains i = true ∨ Gives s'.L Fl) ∧ TF r n P ops tl Fl π s' K)) : TF r n P ops tl Fl ((i, false) :: π) s K := ⟨o, ho, h⟩
theorem TF_end {π : List (Nat × Bool)} {K : St → Prop} {i : Nat} (hg : Gives L Fl) (h : TF r n P ops tl Fl π ⟨D, E, L⟩ K) : TL r n P ops [] ⟨D, E, L⟩ (fun s' => (tl.contains i = true ∨ Gives s'.L Fl) ∧ TF r n P ops tl Fl π s' K) := TL_nil ⟨.inr hg, h⟩
theorem Yl.less {E' : Env} {op : Op} {ty : TypeId} {v : Value} (hE : ∀ i v, look E' i = some v → look E i = some v) (h : Yl P E' L op ty v) : Yl P E L op ty v := fun n D W a w dst pos af g ha hs => h n D W a w dst pos af g (ha.less hE) hs
theorem FloatAt.less {E' : Env} {o : Oper} {v : Value} (hE : ∀ i v, look E' i = some v → look E i = some v) (h : FloatAt P ops E' Fl o v) : FloatAt P ops E Fl o v := by
  rcases h with ⟨hg, hy⟩ | ⟨j, want, g, b, h1, h2, h3, h⟩ | ⟨j, want, g, h1, h2, h3, h⟩
  rotate_left 2
  · exact .inr (.inr ⟨j, want, g, h1, h2, hE _ _ h3, h⟩)
  · exact .inl ⟨hg, hy.less hE⟩
  · refine .inr (.inl ⟨j, want, g, b, h1, h2, hE _ _ h3, ?_⟩)
    rcases h with ⟨e, hy⟩ | h
    · exact .inl ⟨e, hy.less hE⟩
    · exact .inr h
theorem look_cons_less {E' : Env} (hE : ∀ i v, look E' i = some v → look E i = some v) (d : Nat) (u : Value) : ∀ i v, look ((d, u) :: E') i = some v → look ((d, u) :: E) i = some v := fun i v h => by
  simp only [look] at h ⊢
  cases e : Nat.beq d i with
  | true => rw [e] at h; exact h
  | false => rw [e] at h; exact hE i v h
theorem look_same {g : Nat} {u : Value} (hl : look E g = some u) : ∀ i v, look ((g, u) :: E) i = some v → look E i = some v := fun i v h => by
  simp only [look] at h
  cases e : Nat.beq g i with
  | true =>
    rw [e] at h
    simp only [cond_true, Option.some.injEq] at h
    have : g = i := Nat.eq_of_beq_eq_true e
    subst this; subst h
    exact hl
  | false => rw [e] at h; exact h
/-- What is told of fewer slots is told of more. -/
theorem TF_less {K : St → Prop} : ∀ {π : List (Nat × Bool)} {E E' : Env} {L : List HP}, (∀ i v, look E' i = some v → look E i = some v) → TF r n P ops tl Fl π ⟨D, E', L⟩ K → TF r n P ops tl Fl π ⟨D, E, L⟩ K
  | [], E, E', L, hE, ⟨s', h1, h2⟩ => ⟨s', fun W a w hh => h1 W a w ⟨hh.1.less hE, hh.2⟩, h2⟩
  | (i, false) :: π, E, E', L, hE, ⟨o, ho, h⟩ => ⟨o, ho, fun W a w hh => h W a w ⟨hh.1.less hE, hh.2⟩⟩
  | (i, true) :: π, E, E', L, hE, ⟨o, d, v, ho, hdst, hd, hf, h⟩ => ⟨o, d, v, ho, hdst, hd, hf.less hE, TF_less (look_cons_less hE d v) h⟩
/-- A truth is taken both ways ahead of the region's next operation. -/
theorem TF_split {π : List (Nat × Bool)} {K : St → Prop} (g : Nat) {b : Bool} (hl : look E g = some (.bool b)) (ht : b = true → TF r n P ops tl Fl π ⟨D, (g, .bool true) :: E, L⟩ K) (hf : b = false → TF r n P ops tl Fl π ⟨D, (g, .bool false) :: E, L⟩ K) :
    TF r n P ops tl Fl π ⟨D, E, L⟩ K := by
  cases b with
  | true => exact TF_less (look_same hl) (ht rfl)
  | false => exact TF_less (look_same hl) (hf rfl)
theorem TF_splitd {π : List (Nat × Bool)} {K : St → Prop} (g : Nat) {p : Prop} [Decidable p] (hl : look E g = some (.bool (decide p))) (ht : p → TF r n P ops tl Fl π ⟨D, (g, .bool true) :: E, L⟩ K) (hf : ¬ p → TF r n P ops tl Fl π ⟨D, (g, .bool false) :: E, L⟩ K) :
    TF r n P ops tl Fl π ⟨D, E, L⟩ K := TF_split g hl (fun e => ht (of_decide_eq_true e)) (fun e => hf (of_decide_eq_false e))
theorem TF_name {π : List (Nat × Bool)} {K : St → Prop} (g : Nat) {v v' : Value} (hl : look E g = some v) (e : v = v') (h : TF r n P ops tl Fl π ⟨D, (g, v') :: E, L⟩ K) : TF r n P ops tl Fl π ⟨D, E, L⟩ K := by
  subst e
  exact TF_less (look_same hl) h
end
end Go.SL
set_option linter.unusedVariables false
set_option linter.unusedSimpArgs false
namespace Go.SL
open Go Go.Lib

/-! ### Data in cells -/
structure Rep (α : Type) where
  sz : Nat
  rep : Mem → α → List Value → Prop
  mono : ∀ {M N : Mem} {x : α} {cs : List Value}, M.le N → rep M x cs → rep N x cs
  len : ∀ {M : Mem} {x : α} {cs : List Value}, rep M x cs → cs.length = sz
  one : ∀ {M : Mem} {x : α} {cs : List Value}, rep M x cs → ∀ v ∈ cs, v.oneCell' = true
def intIn (k : IntKind) (x : Int) : Prop := k.min ≤ x ∧ x ≤ k.max
theorem i64In_mk {x : Int} (h : -9223372036854775808 ≤ x ∧ x ≤ 9223372036854775807) : intIn .i64 x := by
  simpa [intIn, IntKind.min, IntKind.max, IntKind.signed, IntKind.bits] using h
/-- How many elements a slice has at most. -/
def maxEl : Nat := 281474976710656
def intR (k : IntKind) : Rep Int := ⟨1, fun _ x cs => cs = [.int k x] ∧ intIn k x, fun _ h => h, fun h => by simp [h.1], fun h v hv => by rw [h.1] at hv; simp at hv; subst hv; rfl⟩
def boolR : Rep Bool := ⟨1, fun _ x cs => cs = [.bool x], fun _ h => h, fun h => by simp [h], fun h v hv => by rw [h] at hv; simp at hv; subst hv; rfl⟩
def strR : Rep ByteArray := ⟨1, fun _ x cs => cs = [.string x] ∧ x.size ≤ maxEl, fun _ h => h, fun h => by simp [h.1], fun h v hv => by rw [h.1] at hv; simp at hv; subst hv; rfl⟩

/-- The elements xs lie from place o of block b on. -/
def rowsAt {α : Type} (M : Mem) (R : Rep α) (b o : Nat) (xs : List α) : Prop :=
  ∃ c t fr, M b = some (.cells c t fr) ∧ ∀ i x, xs[i]? = some x → ∃ l, R.rep M x l ∧ ∀ j v, l[j]? = some v → c[o + i * R.sz + j]? = some v
def sliceAt {α : Type} (M : Mem) (R : Rep α) (A : Option Addr) (c : Nat) (xs : List α) : Prop :=
  xs.length ≤ c ∧ xs.length ≤ maxEl ∧ (xs = [] ∨ ∃ b o, A = some ⟨b, o, none⟩ ∧ rowsAt M R b o xs)
theorem rowsAt.mono {α : Type} {M N : Mem} {R : Rep α} {b o : Nat} {xs : List α} (hM : M.le N) (h : rowsAt M R b o xs) : rowsAt N R b o xs :=
  let ⟨c, t, fr, hb, hx⟩ := h
  ⟨c, t, fr, hM _ _ hb, fun i x hi => let ⟨l, hl, hc⟩ := hx i x hi; ⟨l, R.mono hM hl, hc⟩⟩
theorem sliceAt.mono {α : Type} {M N : Mem} {R : Rep α} {A : Option Addr} {c : Nat} {xs : List α} (hM : M.le N) (h : sliceAt M R A c xs) : sliceAt N R A c xs :=
  ⟨h.1, h.2.1, h.2.2.imp id fun ⟨b, o, e, hr⟩ => ⟨b, o, e, hr.mono hM⟩⟩
theorem sliceAt.nil {α : Type} (M : Mem) (R : Rep α) (A : Option Addr) (c : Nat) : sliceAt M R A c [] := ⟨Nat.zero_le _, Nat.zero_le _, .inl rfl⟩
/-- A slice that nobody writes. -/
def sl {α : Type} (R : Rep α) (A : Option Addr) (c : Nat) (xs : List α) : HP := pers (fun M => sliceAt M R A c xs) (fun hM h => h.mono hM)
instance {α : Type} {R : Rep α} {A : Option Addr} {c : Nat} {xs : List α} : Pers (sl R A c xs) := ⟨fun _ _ h => h⟩
/-- An element's cells say x. -/
def is {α : Type} (R : Rep α) (x : α) (l : List Value) : HP := pers (fun M => R.rep M x l) (fun hM h => R.mono hM h)
instance {α : Type} {R : Rep α} {x : α} {l : List Value} : Pers (is R x l) := ⟨fun _ _ h => h⟩
def SlK {α : Type} (L : List HP) (R : Rep α) (A : Option Addr) (c : Nat) (xs : List α) : Prop := Knows L (fun M => sliceAt M R A c xs)
def IsK {α : Type} (L : List HP) (R : Rep α) (x : α) (l : List Value) : Prop := Knows L (fun M => R.rep M x l)
class FindSl (L : List HP) (A : Option Addr) (c : Nat) (α : outParam Type) (R : outParam (Rep α)) (xs : outParam (List α)) : Prop where
  k : SlK L R A c xs
instance findSl_tail {p : HP} {L : List HP} {A : Option Addr} {c : Nat} {α : Type} {R : Rep α} {xs : List α} [h : FindSl L A c α R xs] : FindSl (p :: L) A c α R xs := ⟨Knows.tail h.k⟩
instance findSl_head {L : List HP} {A : Option Addr} {c : Nat} {α : Type} {R : Rep α} {xs : List α} : FindSl (sl R A c xs :: L) A c α R xs := ⟨Knows.head' fun _ _ h => h⟩
theorem slk {L : List HP} {A : Option Addr} {c : Nat} {α : Type} {R : Rep α} {xs : List α} [h : FindSl L A c α R xs] : SlK L R A c xs := h.k
theorem slnil {L : List HP} {A : Option Addr} {c : Nat} {α : Type} {R : Rep α} : SlK L R A c ([] : List α) := Knows.const fun M => sliceAt.nil M R A c
theorem SlK.tail {p : HP} {L : List HP} {A : Option Addr} {c : Nat} {α : Type} {R : Rep α} {xs : List α} (h : SlK L R A c xs) : SlK (p :: L) R A c xs := Knows.tail h
theorem SlK.lay {L : List HP} {A : Option Addr} {c : Nat} {α : Type} {R : Rep α} {xs : List α} (h : SlK L R A c xs) : Gives L (sl R A c xs :: L) := Knows.lay h
theorem SlK.of_gives {L L' : List HP} {A : Option Addr} {c : Nat} {α : Type} {R : Rep α} {xs : List α} (g : Gives L L') (h : SlK L' R A c xs) : SlK L R A c xs := Knows.of_gives g h
theorem SlK.len {L : List HP} {A : Option Addr} {c : Nat} {α : Type} {R : Rep α} {xs : List α} (h : SlK L R A c xs) : Knows L (fun _ => xs.length ≤ c ∧ xs.length ≤ maxEl) := h.mono fun M h => ⟨h.1, h.2.1⟩

/-- A slice that is ours, with all that lies behind it in its block. -/
def oslAt {α : Type} (M h : Mem) (R : Rep α) (t : TypeId) (A : Option Addr) (c : Nat) (xs : List α) : Prop :=
  xs.length ≤ maxEl ∧ ((c = 0 ∧ xs = []) ∨ ∃ g cur, A = some ⟨g, 0, none⟩ ∧ h g = some (.cells cur t (0, 0)) ∧ cur.size = c * R.sz ∧ xs.length ≤ c ∧ c ≤ 9223372036854775807 ∧
    ∀ i x, xs[i]? = some x → ∃ l, R.rep M x l ∧ ∀ j v, l[j]? = some v → cur[i * R.sz + j]? = some v)
def osl {α : Type} (R : Rep α) (t : TypeId) (A : Option Addr) (c : Nat) (xs : List α) : HP :=
  ⟨fun M h => oslAt M h R t A c xs, fun hM hh h => ⟨h.1, h.2.imp id fun ⟨g, cur, e, hg, hs, hl, hc, hx⟩ => ⟨g, cur, e, hh _ _ hg, hs, hl, hc, fun i x hi => let ⟨l, hl, hc⟩ := hx i x hi; ⟨l, R.mono hM hl, hc⟩⟩⟩⟩
class FindO (L : List HP) (A : Option Addr) (c : Nat) (α : outParam Type) (R : outParam (Rep α)) (t : outParam TypeId) (xs : outParam (List α)) (L' : outParam (List HP)) : Prop where
  g : Gives L (osl R t A c xs :: L')
instance findO_tail {p : HP} {L L' : List HP} {A : Option Addr} {c : Nat} {α : Type} {R : Rep α} {t : TypeId} {xs : List α} [h : FindO L A c α R t xs L'] : FindO (p :: L) A c α R t xs (p :: L') := ⟨(Gives.cons p h.g).trans (Gives.swap p _ _)⟩
instance findO_head {L : List HP} {A : Option Addr} {c : Nat} {α : Type} {R : Rep α} {t : TypeId} {xs : List α} : FindO (osl R t A c xs :: L) A c α R t xs L := ⟨Gives.refl _⟩
theorem osl_nil {α : Type} (R : Rep α) (t : TypeId) (A : Option Addr) (L : List HP) : Gives L (osl R t A 0 [] :: L) := fun M m x =>
  ⟨Mem.emp, m, Mem.emp_disj _, Mem.emp_le _, Mem.le_refl _, ⟨Nat.zero_le _, .inl ⟨rfl, rfl⟩⟩, x⟩
theorem osl_len {α : Type} {R : Rep α} {t : TypeId} {A : Option Addr} {c : Nat} {xs : List α} {L : List HP} : Knows (osl R t A c xs :: L) (fun _ => xs.length ≤ c ∧ xs.length ≤ maxEl) := fun M m ⟨h1, h2, hd, l1, l2, hp, hs⟩ => by
  refine ⟨?_, hp.1⟩
  rcases hp.2 with ⟨rfl, rfl⟩ | ⟨g, cur, _, _, _, hl, _⟩
  · simp
  · exact hl
/-- Nobody shall write it any more. -/
theorem freeze_osl {α : Type} {R : Rep α} {t : TypeId} {A : Option Addr} {c : Nat} {xs : List α} {L : List HP} {o w : World} (h : Sat o w (osl R t A c xs :: L)) : Sat o w (sl R A c xs :: L) := by
  obtain ⟨M, k, hd, hM, hk, h1, h2, hd', l1, l2, hp, hs⟩ := h.ex
  rcases hp.2 with ⟨rfl, rfl⟩ | ⟨g, cur, rfl, hg, hsz, hl, hc, hx⟩
  · exact ⟨⟨M, k, hd, hM, hk, Mem.emp, h2, Mem.emp_disj _, Mem.emp_le _, l2, sliceAt.nil _ _ _ _, hs⟩, h.os, h.tape, h.output, h.size⟩
  · -- the block is turned into one that nobody writes
    have hsat : Sat o w (own g (.cells cur t (0, 0)) :: pers (fun M => ∀ i x, xs[i]? = some x → ∃ l, R.rep M x l ∧ ∀ j v, l[j]? = some v → cur[i * R.sz + j]? = some v) (fun hM h i x hi => let ⟨l, a, b⟩ := h i x hi; ⟨l, R.mono hM a, b⟩) :: L) :=
      ⟨⟨M, k, hd, hM, hk, h1, h2, hd', l1, l2, hg, Mem.emp, h2, Mem.emp_disj _, Mem.emp_le _, Mem.le_refl _, hx, hs⟩, h.os, h.tape, h.output, h.size⟩
    refine (Sat.freeze hsat).gives fun M m ⟨k1, k2, kd, m1, m2, hi, k3, k4, kd', m3, m4, hx', hs'⟩ => ?_
    refine ⟨Mem.emp, k4, Mem.emp_disj _, Mem.emp_le _, Mem.le_trans m4 m2, ⟨hl, hp.1, .inr ⟨g, 0, rfl, cur, t, (0, 0), hi, fun i x hix => ?_⟩⟩, hs'⟩
    obtain ⟨l, a, b⟩ := hx' i x hix
    exact ⟨l, a, fun j v hj => by rw [Nat.zero_add]; exact b j v hj⟩

section
variable {r : Option Nat} {n : Nat} {P : Program} {ops : Array Oper} {rest : List Oper} {K : St → Prop} {Q : Exit → St → Prop} {D : List Deferred} {E : Env} {L L' : List HP} {d : Nat} {ty : TypeId} {pos : String} {af : Array Edge}
variable {α : Type} {R : Rep α} {A : Option Addr} {c : Nat} {xs : List α}

theorem TL_freeze_osl {t : TypeId} (h : TL r n P ops rest ⟨D, E, sl R A c xs :: L⟩ K) : TL r n P ops rest ⟨D, E, osl R t A c xs :: L⟩ K := fun W a w hh => h W a w ⟨hh.1, freeze_osl hh.2⟩
/-- An element's cells are laid open. -/
theorem elem_gives {b o : Nat} (hk : SlK L R (some ⟨b, o, none⟩) c xs) {i : Int} {x : α} (hx : xs[i.toNat]? = some x) : ∀ W w, Sat W w L → ∃ l, Sat W w (row b (o + i.toNat * R.sz) l :: is R x l :: L) := fun W w hs => by
  obtain ⟨M, m, hd, hM, hm, hsep⟩ := hs.ex
  obtain ⟨h1, h2, h3⟩ := hk M m hsep
  rcases h3 with e | ⟨b', o', e, cs, t, fr, hb, hall⟩
  · rw [e] at hx; simp at hx
  · cases e
    obtain ⟨l, hl, hc⟩ := hall _ _ hx
    exact ⟨l, ⟨⟨M, m, hd, hM, hm, Mem.emp, m, Mem.emp_disj _, Mem.emp_le _, Mem.le_refl _, ⟨cs, t, fr, hb, hc⟩, Mem.emp, m, Mem.emp_disj _, Mem.emp_le _, Mem.le_refl _, hl, hsep⟩, hs.os, hs.tape, hs.output, hs.size⟩⟩
/-! ### Lengths, addresses of elements, cuts -/
theorem Y_len {x : Operand} {t e : TypeId} {k : Nat} [ht : TyDesc P t (.slice e)] (hx : ev E x = some (.slice A k c)) : Yl P E L (.call { callee := .builtin .len, args := #[x], argTypes := #[t] }) ty (.int .i64 (k : Int)) := fun n D W a w dst pos af g ha hs => by
  simp [execOp, resolve, invoke, builtin, Builtin.len_, ha.ev hx, ht.run, goInt]
theorem Y_index_addr {x i : Operand} {t e : TypeId} {k m b o : Nat} {ik : IntKind} {j : Int} [ht : TyDesc P t (.slice e)] [hz : TySize P e m] (hx : ev E x = some (.slice (some ⟨b, o, none⟩) k c)) (hi : ev E i = some (.int ik j)) (hb : 0 ≤ j ∧ j < (k : Int)) :
    Yl P E L (.indexAddr t x i) ty (.pointer (some ⟨b, o + j.toNat * m + 0, none⟩)) := fun n D W a w dst pos af g ha hs => by
  simp [execOp, Instr.indexAt, ha.ev hx, ha.ev hi, asIntOf, ht.run, hz.run, hb, Addr.add_plain]
/-- A cut of a slice, as a value. -/
def cutA (A : Option Addr) (l cap sz : Nat) : Option Addr := if cap = l then A else A.map (·.add (l * sz))
theorem Y_cut_h {x hi : Operand} {t e : TypeId} {k m : Nat} {k2 : IntKind} {j : Int} [ht : TyDesc P t (.slice e)] [hz : TySize P e m] (hx : ev E x = some (.slice A k c)) (hh : ev E hi = some (.int k2 j)) (hb : 0 ≤ j ∧ j ≤ (c : Int)) :
    Yl P E L (.slice t x none (some hi) none) ty (.slice A j.toNat c) := fun n D W a w dst pos af g ha hs => by
  have : (if c = 0 then A else A.map (·.add (0 * m))) = A := by
    split
    · rfl
    · cases A <;> simp [Addr.add]
  simp [execOp, Instr.sliceAt, Instr.slice, Instr.sliceBounds, ha.ev hx, ha.ev hh, ht.run, hz.run, Instr.sliceBound, asIntOf, hb]
  cases A <;> simp [Addr.add]
theorem sliceAt.cut {M : Mem} (h : sliceAt M R A c xs) (i j cap : Nat) (hij : i ≤ j) (hj : j ≤ xs.length) (hcap : j ≤ cap) : sliceAt M R (cutA A i cap R.sz) (cap - i) ((xs.take j).drop i) := by
  have hlen : ((xs.take j).drop i).length = j - i := by simp; omega
  refine ⟨by rw [hlen]; omega, by rw [hlen]; have := h.2.1; omega, ?_⟩
  by_cases hij' : i = j
  · left; apply List.eq_nil_of_length_eq_zero; omega
  · rcases h.2.2 with e | ⟨b, o, rfl, cs, t, fr, hb, hall⟩
    · subst e; left; simp
    · right
      refine ⟨b, o + i * R.sz, ?_, cs, t, fr, hb, fun k x hk => ?_⟩
      · unfold cutA; rw [if_neg (by omega)]; simp [Addr.add_plain]
      · rw [List.getElem?_drop, List.getElem?_take] at hk
        split at hk
        · obtain ⟨l, hl, hc⟩ := hall _ _ hk
          refine ⟨l, hl, fun q v hq => ?_⟩
          have := hc q v hq
          rwa [Nat.add_mul, ← Nat.add_assoc] at this
        · cases hk
theorem SlK.cut (h : SlK L R A c xs) (i j cap : Nat) (hij : i ≤ j) (hj : j ≤ xs.length) (hcap : j ≤ cap) : SlK L R (cutA A i cap R.sz) (cap - i) ((xs.take j).drop i) := h.mono fun M h => h.cut i j cap hij hj hcap

/-! ### append -/
theorem run_typeInfo {e : TypeId} {z : Value} {size bytes : Nat} [h : TyElem P e z size bytes] : ∃ i, P.info? e = some i ∧ i.zero = some z ∧ i.size = size ∧ i.bytes = bytes := by
  have := h.info
  cases hi : P.info? e with
  | none => rw [hi] at this; cases this
  | some i =>
    rw [hi] at this
    simp only [Option.map_some, Option.some.injEq, Prod.mk.injEq] at this
    exact ⟨i, rfl, this.1, this.2.1, this.2.2⟩
theorem not_int {dsc : TypeDesc} (h : ∀ k, dsc ≠ .int k) : (match dsc with | .int _ => true | _ => false) = false := by
  cases dsc <;> first | rfl | (rename_i k; exact absurd rfl (h k))
theorem run_firstCells' {w w' : World} {size n c : Nat} {news : List Value} {A : Option Addr} (hw : w'.heap = w.heap) (hA : n = 0 ∨ ∃ a, A = some a ∧ ∀ j v, news[j]? = some v → w.cell? (a.add j) = some v) (hl : news.length = n * size) :
    (Builtin.firstCells size n (.slice A n c)).run P w' = .ok news.toArray w' := by
  cases A with
  | none =>
    rcases hA with rfl | ⟨a, e, _⟩
    · have : news = [] := List.eq_nil_of_length_eq_zero (by simpa using hl)
      subst this
      simp [Builtin.firstCells]
    · cases e
  | some a =>
    have hc : ∀ j v, news[j]? = some v → w'.cell? (a.add j) = some v := by
      intro j v hj
      rcases hA with rfl | ⟨a', e, hc⟩
      · have : news = [] := List.eq_nil_of_length_eq_zero (by simpa using hl)
        subst this
        simp at hj
      · cases e
        rw [← hc j v hj]
        simp only [World.cell?, hw]
    simp only [Builtin.firstCells, ← hl]
    exact run_loadCells_list w' a news hc
/-- Where the cells of what is appended come from. -/
structure Src (P : Program) (u : TypeId) (size : Nat) (v : Value) (n : Nat) (news : List Value) (w : World) : Prop where
  desc : ∃ dsc, (∀ w, (underlying u).run P w = .ok dsc w) ∧ ∀ k, dsc ≠ .int k
  len : ∀ w, (Builtin.lenOf v).run P w = .ok n w
  cells : ∀ w' : World, w'.heap = w.heap → (Builtin.firstCells size n v).run P w' = .ok news.toArray w'
  count : news.length = n * size
  one : ∀ u ∈ news, u.oneCell' = true
theorem src_slice {u e : TypeId} {w : World} {size n c : Nat} {news : List Value} {A : Option Addr} [hu : TyDesc P u (.slice e)] (hA : n = 0 ∨ ∃ a, A = some a ∧ ∀ j v, news[j]? = some v → w.cell? (a.add j) = some v) (hl : news.length = n * size) (h1 : ∀ u ∈ news, u.oneCell' = true) : Src P u size (.slice A n c) n news w := by
  exact ⟨⟨_, hu.run, fun k e => by cases e⟩, fun w => by simp [Builtin.lenOf], fun w' hw => run_firstCells' hw hA hl, hl, h1⟩
theorem run_append_room' {t u e : TypeId} {z : Value} {size bytes g sLen sCap m : Nat} {cur : List Value} {w : World} {v : Value} {news : List Value} {ty' : TypeId} [ht : TyDesc P t (.slice e)] [he : TyElem P e z size bytes] (hs : Src P u size v m news w) (hg : w.heap[g]? = some (.cells cur.toArray e (0, 0)))
    (hroom : sLen + m ≤ sCap) (hfit : (sLen + m) * size ≤ cur.length) :
    (Builtin.append_ #[t, u] ty' #[.slice (some ⟨g, 0, none⟩) sLen sCap, v]).run P w = .ok (.slice (some ⟨g, 0, none⟩) (sLen + m) sCap) (w.setRow g (cur.take (sLen * size) ++ news ++ cur.drop ((sLen + m) * size)).toArray) := by
  obtain ⟨i, hi, hz, hsz, hby⟩ := run_typeInfo (P := P) (e := e) (z := z) (size := size) (bytes := bytes)
  obtain ⟨dsc, hd, hni⟩ := hs.desc
  have hst := run_storeCells_at P g (sLen * size) e news 0 cur.toArray w hg (by simp [hs.count, ← Nat.add_mul]; exact hfit) hs.one
  simp only [Nat.add_zero] at hst
  have hb := not_int hni
  have hc := hs.cells w rfl
  simp [Builtin.append_, ht.run, hd, hb, sizeOf, typeInfo, hi, hsz, hs.len, hroom, hc, Addr.add_plain, hst, hs.count, Nat.add_mul]
theorem run_append_none' {t u e : TypeId} {z : Value} {size bytes sLen sCap : Nat} {A : Option Addr} {w : World} {v : Value} {ty' : TypeId} [ht : TyDesc P t (.slice e)] [he : TyElem P e z size bytes] (hs : Src P u size v 0 [] w) (hroom : sLen ≤ sCap) :
    (Builtin.append_ #[t, u] ty' #[.slice A sLen sCap, v]).run P w = .ok (.slice A sLen sCap) w := by
  obtain ⟨i, hi, hz, hsz, hby⟩ := run_typeInfo (P := P) (e := e) (z := z) (size := size) (bytes := bytes)
  obtain ⟨dsc, hd, hni⟩ := hs.desc
  have hb := not_int hni
  have hc := hs.cells w rfl
  cases A <;> simp [Builtin.append_, ht.run, hd, hb, sizeOf, typeInfo, hi, hsz, hs.len, hroom, hc, storeCells]
theorem run_append_grow' {t u e : TypeId} {z : Value} {size bytes sLen sCap m : Nat} {A : Option Addr} {w : World} {v : Value} {olds news : List Value} {ty' : TypeId} [ht : TyDesc P t (.slice e)] [he : TyElem P e z size bytes] (hs : Src P u size v m news w)
    (hlo : olds.length = sLen * size) (holds : sLen = 0 ∨ ∃ a, A = some a ∧ ∀ j v, olds[j]? = some v → w.cell? (a.add j) = some v) (hg : sCap < sLen + m) (h63 : sLen + m ≤ 9223372036854775807) (hfit : (sLen + m) * bytes ≤ 140737488355328) :
    (Builtin.append_ #[t, u] ty' #[.slice A sLen sCap, v]).run P w = .ok (.slice (some ⟨w.heap.size, 0, none⟩) (sLen + m) (grownCap w (sLen + m) sCap e))
      (w.drew.alloc (.cells (olds.toArray ++ news.toArray ++ Builtin.zeroCells z.cells (grownCap w (sLen + m) sCap e - (sLen + m))) e)) := by
  obtain ⟨i, hi, hz, hsz, hby⟩ := run_typeInfo (P := P) (e := e) (z := z) (size := size) (bytes := bytes)
  obtain ⟨dsc, hd, hni⟩ := hs.desc
  have hb := not_int hni
  have hn : ¬ (sLen + m ≤ sCap) := by omega
  have h63' : ¬ (9223372036854775807 < ((sLen : Int) + (m : Int))) := by omega
  have h48 := growslice_fits hg hfit
  have h48' : ¬ (281474976710656 < Builtin.nextslicecap (sLen + m) sCap * bytes) := by omega
  have hc := hs.cells w.drew rfl
  have hfo : (Builtin.firstCells size sLen (.slice A sLen sCap)).run P w.drew = .ok olds.toArray w.drew := run_firstCells' (w := w) rfl holds hlo
  simp [Builtin.append_, ht.run, hd, hb, sizeOf, typeInfo, zeroValue, hi, hz, hsz, hby, hs.len, hn, h63', h48', Question.forced, hc, hfo, newRow, grownCap]
  rw [← List.append_toArray, Array.append_assoc]
end
end Go.SL
set_option linter.unusedVariables false
set_option linter.unusedSimpArgs false
namespace Go.SL
open Go Go.Lib

theorem TyDesc.under {P : Program} {t : TypeId} {d : TypeDesc} [h : TyDesc P t d] : P.underlying t = some d := by
  have := h.run default
  unfold underlying at this
  simp only [Sem.run_bind] at this
  cases e : P.underlying t with
  | none => simp [e, program, stuck, Sem.run] at this
  | some d' =>
    simp only [program, Sem.run, Result.andThen, e] at this
    have e2 : (Result.ok d' default : Result TypeDesc) = .ok d default := this
    injection e2 with e3
    rw [e3]
theorem TyElem.sz {P : Program} {e : TypeId} {z : Value} {size bytes : Nat} [h : TyElem P e z size bytes] (w : World) : (sizeOf e).run P w = .ok size w := by
  obtain ⟨i, hi, hz, hsz, hby⟩ := run_typeInfo (P := P) (e := e) (z := z) (size := size) (bytes := bytes)
  simp [sizeOf, typeInfo, hi, hsz]

section
variable {r : Option Nat} {n : Nat} {P : Program} {ops : Array Oper} {rest : List Oper} {K : St → Prop} {Q : Exit → St → Prop} {D : List Deferred} {E : Env} {L L' : List HP} {d : Nat} {ty : TypeId} {pos : String} {af : Array Edge}
variable {α : Type} {R : Rep α} {A : Option Addr} {c : Nat} {xs ys : List α}

/-! ### The cells of elements -/
/-- Of elements that lie somewhere: their cells, one behind the other. -/
def CellsOf (M : Mem) (R : Rep α) : List α → List Value → Prop
  | [], cs => cs = []
  | x :: xs, cs => ∃ l r', R.rep M x l ∧ CellsOf M R xs r' ∧ cs = l ++ r'
theorem cellsOf_mono {M N : Mem} (hM : M.le N) : ∀ {xs : List α} {cs : List Value}, CellsOf M R xs cs → CellsOf N R xs cs
  | [], cs, h => h
  | x :: xs, cs, ⟨l, r', h1, h2, e⟩ => ⟨l, r', R.mono hM h1, cellsOf_mono hM h2, e⟩
theorem CellsOf.length {M : Mem} : ∀ {xs : List α} {cs : List Value}, CellsOf M R xs cs → cs.length = xs.length * R.sz
  | [], cs, h => by simp [show cs = [] from h]
  | x :: xs, cs, ⟨l, r', h1, h2, e⟩ => by
    subst e
    simp [R.len h1, CellsOf.length h2, Nat.add_mul]
    omega
theorem CellsOf.one {M : Mem} : ∀ {xs : List α} {cs : List Value}, CellsOf M R xs cs → ∀ v ∈ cs, v.oneCell' = true
  | [], cs, h => by simp [show cs = [] from h]
  | x :: xs, cs, ⟨l, r', h1, h2, e⟩ => by
    subst e
    intro v hv
    rcases List.mem_append.1 hv with hv | hv
    · exact R.one h1 v hv
    · exact CellsOf.one h2 v hv
theorem CellsOf.at_ {M : Mem} : ∀ {xs : List α} {cs : List Value}, CellsOf M R xs cs → ∀ i x, xs[i]? = some x → ∃ l, R.rep M x l ∧ ∀ j v, l[j]? = some v → cs[i * R.sz + j]? = some v
  | [], cs, h, i, x, hi => by simp at hi
  | y :: xs, cs, ⟨l, r', h1, h2, e⟩, 0, x, hi => by
    simp at hi
    subst hi; subst e
    refine ⟨l, h1, fun j v hj => ?_⟩
    have : j < l.length := (List.getElem?_eq_some_iff.1 hj).1
    simp [List.getElem?_append_left this, hj]
  | y :: xs, cs, ⟨l, r', h1, h2, e⟩, i + 1, x, hi => by
    obtain ⟨l', h3, h4⟩ := CellsOf.at_ h2 i x (by simpa using hi)
    subst e
    refine ⟨l', h3, fun j v hj => ?_⟩
    rw [List.getElem?_append_right (by rw [R.len h1, Nat.add_mul]; omega), R.len h1, show (i + 1) * R.sz + j - R.sz = i * R.sz + j by rw [Nat.add_mul]; omega]
    exact h4 j v hj
theorem CellsOf.append {M : Mem} : ∀ {xs ys : List α} {cs ds : List Value}, CellsOf M R xs cs → CellsOf M R ys ds → CellsOf M R (xs ++ ys) (cs ++ ds)
  | [], ys, cs, ds, h, k => by rw [show cs = [] from h]; exact k
  | x :: xs, ys, cs, ds, ⟨l, r', h1, h2, e⟩, k => ⟨l, r' ++ ds, h1, CellsOf.append h2 k, by rw [e, List.append_assoc]⟩
/-- What lies in an array, element by element, is some list of cells. -/
theorem cells_of_array {M : Mem} {cur : Array Value} {o : Nat} : ∀ {xs : List α} {k : Nat}, (∀ i x, xs[i]? = some x → ∃ l, R.rep M x l ∧ ∀ j v, l[j]? = some v → cur[o + (k + i) * R.sz + j]? = some v) → ∃ cs, CellsOf M R xs cs ∧ ∀ j v, cs[j]? = some v → cur[o + k * R.sz + j]? = some v
  | [], k, h => ⟨[], rfl, fun j v hj => by simp at hj⟩
  | x :: xs, k, h => by
    obtain ⟨l, h1, h2⟩ := h 0 x rfl
    obtain ⟨cs, h3, h4⟩ := cells_of_array (xs := xs) (k := k + 1) (fun i y hi => by
      obtain ⟨l', a, b⟩ := h (i + 1) y (by simpa using hi)
      refine ⟨l', a, fun j v hj => ?_⟩
      have := b j v hj
      rwa [show k + (i + 1) = k + 1 + i by omega] at this)
    refine ⟨l ++ cs, ⟨l, cs, h1, h3, rfl⟩, fun j v hj => ?_⟩
    by_cases hl : j < l.length
    · rw [List.getElem?_append_left hl] at hj
      exact h2 j v hj
    · rw [List.getElem?_append_right (by omega)] at hj
      have := h4 _ v hj
      rw [R.len h1] at this
      rw [R.len h1] at hl
      rwa [show o + (k + 1) * R.sz + (j - R.sz) = o + k * R.sz + j by rw [Nat.add_mul]; omega] at this
theorem cells_of_slice {M : Mem} {w : World} (hM : M.le (heapOf w)) (h : sliceAt M R A c xs) : ∃ cs, CellsOf M R xs cs ∧ (xs.length = 0 ∨ ∃ a, A = some a ∧ ∀ j v, cs[j]? = some v → w.cell? (a.add j) = some v) := by
  rcases h.2.2 with rfl | ⟨b, o, rfl, cur, t, fr, hb, hall⟩
  · exact ⟨[], rfl, .inl rfl⟩
  · obtain ⟨cs, h1, h2⟩ := cells_of_array (R := R) (M := M) (cur := cur) (o := o) (xs := xs) (k := 0) (fun i x hi => by
      obtain ⟨l, a, b⟩ := hall i x hi
      exact ⟨l, a, fun j v hj => by rw [Nat.zero_add]; exact b j v hj⟩)
    refine ⟨cs, h1, .inr ⟨_, rfl, fun j v hj => ?_⟩⟩
    rw [Addr.add_plain, cell_of (hM _ _ hb)]
    simpa using h2 j v hj

/-! ### append -/
def strBytes (s : ByteArray) : List Int := s.data.toList.map fun b => (b.toNat : Int)
/-- Whatever is appended to a slice that is ours: what comes of it. -/
theorem append_own {t u e : TypeId} {z : Value} {bytes c : Nat} {W w : World} {v : Value} {news : List Value} [ht : TyDesc P t (.slice e)] [he : TyElem P e z R.sz bytes] (hb : 0 < bytes) (hzl : z.cells.size = R.sz) (hs : Sat W w (osl R e A c xs :: L)) (hsrc : Src P u R.sz v ys.length news w)
    (hcells : ∀ M h, Sep L M h → M.le (heapOf w) → CellsOf M R ys news) (hfit : (xs.length + ys.length) * bytes ≤ 140737488355328) (ty' : TypeId) :
    ∃ A' c' w', (Builtin.append_ #[t, u] ty' #[.slice A xs.length c, v]).run P w = .ok (.slice A' (xs ++ ys).length c') w' ∧ Sat W w' (osl R e A' c' (xs ++ ys) :: L) := by
  have hlen : (xs ++ ys).length = xs.length + ys.length := by simp
  have hmax : xs.length + ys.length ≤ 140737488355328 := Nat.le_trans (Nat.le_mul_of_pos_right _ hb) hfit
  have hmaxEl : (xs ++ ys).length ≤ maxEl := by rw [hlen]; unfold maxEl; omega
  obtain ⟨M, k, hd, hM, hk, h1, h2, hd', l1, l2, hp, hsep⟩ := hs.ex
  have hnc := hcells M h2 hsep hM
  -- growing: all cells lie in a new block
  have grow : ∀ (olds : List Value), CellsOf M R xs olds → (xs.length = 0 ∨ ∃ a, A = some a ∧ ∀ j v, olds[j]? = some v → w.cell? (a.add j) = some v) → c < xs.length + ys.length →
      ∃ A' c' w', (Builtin.append_ #[t, u] ty' #[.slice A xs.length c, v]).run P w = .ok (.slice A' (xs ++ ys).length c') w' ∧ Sat W w' (osl R e A' c' (xs ++ ys) :: L) := by
    intro olds ho hold hg
    have hr := run_append_grow' (P := P) (t := t) (ty' := ty') hsrc ho.length hold hg (by omega) hfit
    refine ⟨_, _, _, by rw [hlen]; exact hr, ?_⟩
    have hcap := grownCap_ge w (xs.length + ys.length) c e
    have hcapm : grownCap w (xs.length + ys.length) c e ≤ maxLen := grownCap_le_maxLen w _ c e (by simp only [maxLen]; omega)
    have hsat : Sat W w.drew L := (hs.gives (Gives.drop _ _)).drew
    have hsat0 : Sat W w.drew (pers (fun M => CellsOf M R (xs ++ ys) (olds ++ news)) (fun hM h => cellsOf_mono hM h) :: L) := by
      refine ⟨⟨M, h2, Mem.disj_le hd (Mem.le_refl _) l2, hM, Mem.le_trans l2 hk, Mem.emp, h2, Mem.emp_disj _, Mem.emp_le _, Mem.le_refl _, ho.append hnc, hsep⟩, hsat.os, hsat.tape, hsat.output, hsat.size⟩
    have hall := hsat0.alloc (.cells (olds.toArray ++ news.toArray ++ Builtin.zeroCells z.cells (grownCap w (xs.length + ys.length) c e - (xs.length + ys.length))) e)
    refine hall.gives fun N m ⟨k1, k2, kd, m1, m2, ha, k3, k4, kd', m3, m4, hcs, hs'⟩ => ?_
    refine ⟨k1, k4, Mem.disj_le kd (Mem.le_refl _) m4, m1, Mem.le_trans m4 m2, ⟨hmaxEl, .inr ⟨_, _, rfl, ha, ?_, by rw [hlen]; exact hcap, by simpa [maxLen] using hcapm, fun i x hi => ?_⟩⟩, hs'⟩
    · have hl1 := ho.length
      have hl2 := hnc.length
      simp only [Array.size_append, List.size_toArray, size_zeroCells, hl1, hl2, hzl, ← Nat.add_mul]
      congr 1
      omega
    · obtain ⟨l, a, b⟩ := hcs.at_ i x hi
      refine ⟨l, a, fun j v hj => ?_⟩
      have hb := b j v hj
      have hlt : i * R.sz + j < (olds ++ news).length := (List.getElem?_eq_some_iff.1 hb).1
      rw [Array.getElem?_append_left (by simpa using hlt)]
      simpa using hb
  rcases hp.2 with ⟨rfl, rfl⟩ | ⟨g, cur, rfl, hg, hsz, hl, hc, hx⟩
  · by_cases hm : ys.length = 0
    · have : ys = [] := List.eq_nil_of_length_eq_zero hm
      subst this
      have hn : news = [] := List.eq_nil_of_length_eq_zero (by simpa using hsrc.count)
      subst hn
      exact ⟨A, 0, w, run_append_none' hsrc (Nat.le_refl _), hs⟩
    · exact grow [] rfl (.inl rfl) (by simp; omega)
  · have hw : w.heap[g]? = some (.cells cur e (0, 0)) := hk _ _ (l1 _ _ hg)
    by_cases hroom : xs.length + ys.length ≤ c
    · have hfit2 : (xs.length + ys.length) * R.sz ≤ cur.toList.length := by simp [hsz]; exact Nat.mul_le_mul_right _ hroom
      have hr := run_append_room' (P := P) (t := t) (ty' := ty') (cur := cur.toList) hsrc (by simpa using hw) hroom hfit2
      refine ⟨_, _, _, by rw [hlen]; exact hr, ?_⟩
      have hsat1 : Sat W w (own g (.cells cur e (0, 0)) :: pers (fun M => (∀ i x, xs[i]? = some x → ∃ l, R.rep M x l ∧ ∀ j v, l[j]? = some v → cur[i * R.sz + j]? = some v) ∧ CellsOf M R ys news) (fun hM h => ⟨fun i x hi => let ⟨l, a, b⟩ := h.1 i x hi; ⟨l, R.mono hM a, b⟩, cellsOf_mono hM h.2⟩) :: L) :=
        ⟨⟨M, k, hd, hM, hk, h1, h2, hd', l1, l2, hg, Mem.emp, h2, Mem.emp_disj _, Mem.emp_le _, Mem.le_refl _, ⟨hx, hnc⟩, hsep⟩, hs.os, hs.tape, hs.output, hs.size⟩
      have hset := Sat.set hsat1 (w' := w.setRow g (cur.toList.take (xs.length * R.sz) ++ news ++ cur.toList.drop ((xs.length + ys.length) * R.sz)).toArray) (y := .cells (cur.toList.take (xs.length * R.sz) ++ news ++ cur.toList.drop ((xs.length + ys.length) * R.sz)).toArray e (0, 0))
        (by simp only [World.setRow, Array.getElem?_modify, if_true, hw, Option.map_some]) (fun i hi => by simp only [World.setRow, Array.getElem?_modify]; rw [if_neg (Ne.symm hi)]) rfl rfl rfl (by simp [World.setRow])
      refine hset.gives fun N m ⟨k1, k2, kd, m1, m2, ha, k3, k4, kd', m3, m4, ⟨hx', hn'⟩, hs'⟩ => ?_
      have hnl := hn'.length
      have hcl : cur.toList.length = c * R.sz := by simp [hsz]
      refine ⟨k1, k4, Mem.disj_le kd (Mem.le_refl _) m4, m1, Mem.le_trans m4 m2, ⟨hmaxEl, .inr ⟨g, _, rfl, ha, ?_, by rw [hlen]; exact hroom, hc, fun i x hi => ?_⟩⟩, hs'⟩
      · simp only [List.size_toArray, List.length_append, List.length_take, List.length_drop, hnl, hcl]
        have e1 : (xs.length + ys.length) * R.sz = xs.length * R.sz + ys.length * R.sz := Nat.add_mul _ _ _
        omega
      · have e1 : (xs.length + ys.length) * R.sz = xs.length * R.sz + ys.length * R.sz := Nat.add_mul _ _ _
        have hle : xs.length * R.sz ≤ cur.toList.length := by omega
        have htl : (cur.toList.take (xs.length * R.sz)).length = xs.length * R.sz := by rw [List.length_take]; omega
        by_cases hi2 : i < xs.length
        · rw [List.getElem?_append_left hi2] at hi
          obtain ⟨l, a, b⟩ := hx' i x hi
          refine ⟨l, a, fun j v hj => ?_⟩
          have hjl : j < R.sz := by rw [← R.len a]; exact (List.getElem?_eq_some_iff.1 hj).1
          have hin : i * R.sz + j < xs.length * R.sz := by
            have : (i + 1) * R.sz ≤ xs.length * R.sz := Nat.mul_le_mul_right _ hi2
            rw [Nat.add_mul] at this
            omega
          have hb := b j v hj
          simp only [List.getElem?_toArray]
          rw [List.append_assoc, List.getElem?_append_left (by omega), List.getElem?_take, if_pos hin]
          simpa using hb
        · rw [List.getElem?_append_right (by omega)] at hi
          obtain ⟨l, a, b⟩ := hn'.at_ _ x hi
          refine ⟨l, a, fun j v hj => ?_⟩
          have hb := b j v hj
          have hlt : (i - xs.length) * R.sz + j < news.length := (List.getElem?_eq_some_iff.1 hb).1
          have hge : xs.length * R.sz ≤ i * R.sz := Nat.mul_le_mul_right _ (by omega)
          have hsub : (i - xs.length) * R.sz = i * R.sz - xs.length * R.sz := Nat.sub_mul _ _ _
          simp only [List.getElem?_toArray]
          rw [List.append_assoc, List.getElem?_append_right (by omega), htl, show i * R.sz + j - xs.length * R.sz = (i - xs.length) * R.sz + j by omega, List.getElem?_append_left hlt]
          exact hb
    · obtain ⟨olds, h3, h4⟩ := cells_of_array (R := R) (M := M) (cur := cur) (o := 0) (xs := xs) (k := 0) (fun i x hi => by
        obtain ⟨l, a, b⟩ := hx i x hi
        exact ⟨l, a, fun j v hj => by rw [Nat.zero_add, Nat.zero_add]; exact b j v hj⟩)
      refine grow olds h3 (.inr ⟨_, rfl, fun j v hj => ?_⟩) (by omega)
      rw [Addr.add_plain, cell_of hw]
      simpa using h4 j v hj

/-- append of a slice's elements to a slice that is ours. -/
theorem TL_append {x y : Operand} {t u e : TypeId} {z : Value} {bytes c2 : Nat} {A2 : Option Addr} {L0 : List HP} [ht : TyDesc P t (.slice e)] [hu : TyDesc P u (.slice e)] (hd : Nat.blt d n = true) (hx : ev E x = some (.slice A xs.length c)) (hy : ev E y = some (.slice A2 ys.length c2)) [hf : FindO L A c α R e xs L0]
    [he : TyElem P e z R.sz bytes] (hz : z.cells.size = R.sz) (hb : Nat.blt 0 bytes = true) (hsrc : SlK L0 R A2 c2 ys) (hfit : (xs.length + ys.length) * bytes ≤ 140737488355328)
    (h : ∀ A' c', TL r n P ops rest ⟨D, (d, .slice A' (xs ++ ys).length c') :: E, osl R e A' c' (xs ++ ys) :: L0⟩ K) :
    TL r n P ops (⟨some d, .call { callee := .builtin .append, args := #[x, y], argTypes := #[t, u] }, ty, pos, af, none⟩ :: rest) ⟨D, E, L⟩ K :=
  TL_val rfl hd rfl (fun _ e => by cases e) fun W a w hh => by
    have hs := hh.2.gives hf.g
    have hs0 := hs.gives (Gives.drop _ _)
    obtain ⟨M, k, hd1, hM, hk, hsep⟩ := hs0.ex
    obtain ⟨cs, h1, h2⟩ := cells_of_slice hM (hsrc M k hsep)
    have hsl : Src P u R.sz (.slice A2 ys.length c2) ys.length cs w := src_slice (u := u) (e := e) h2 h1.length h1.one
    have hsat : Sat W w (osl R e A c xs :: pers (fun M => CellsOf M R ys cs) (fun hM h => cellsOf_mono hM h) :: L0) := by
      obtain ⟨M', k', hd1', hM', hk', g1, g2, gd, m1, m2, hp, hsep'⟩ := hs.ex
      -- the cells are the same by their elements' own word
      obtain ⟨cs', q1, q2⟩ := cells_of_slice hM' (hsrc M' g2 hsep')
      have : cs' = cs := by
        apply List.ext_getElem?
        intro j
        by_cases hj : j < ys.length * R.sz
        · rcases q2 with e0 | ⟨a1, e1, q3⟩
          · rw [e0] at hj; simp at hj
          · rcases h2 with e0 | ⟨a2, e2, h3⟩
            · rw [e0] at hj; simp at hj
            · rw [e1] at e2; cases e2
              have l1 : j < cs'.length := by rw [q1.length]; exact hj
              have l2 : j < cs.length := by rw [h1.length]; exact hj
              have v1 := q3 j _ (List.getElem?_eq_getElem l1)
              have v2 := h3 j _ (List.getElem?_eq_getElem l2)
              rw [v1] at v2
              rw [List.getElem?_eq_getElem l1, List.getElem?_eq_getElem l2]
              exact v2
        · rw [List.getElem?_eq_none (by rw [q1.length]; omega), List.getElem?_eq_none (by rw [h1.length]; omega)]
      subst this
      exact ⟨⟨M', k', hd1', hM', hk', g1, g2, gd, m1, m2, hp, Mem.emp, g2, Mem.emp_disj _, Mem.emp_le _, Mem.le_refl _, q1, hsep'⟩, hs.os, hs.tape, hs.output, hs.size⟩
    obtain ⟨A', c', w', hr, hs'⟩ := append_own (P := P) (t := t) (u := u) (by simpa using hb) hz hsat hsl (fun N m hm _ => by obtain ⟨_, _, _, _, _, hp, _⟩ := hm; exact hp) hfit ty
    refine ⟨_, w', _, ?_, hs'.gives (Gives.cons _ (Gives.drop _ _)), h A' c'⟩
    simp [execOp, resolve, invoke, builtin, hh.1.ev hx, hh.1.ev hy, hr]
theorem TL_onil {A : Option Addr} (R : Rep α) (e : TypeId) (h : TL r n P ops rest ⟨D, E, osl R e A 0 [] :: L⟩ K) : TL r n P ops rest ⟨D, E, L⟩ K := TL_gives (osl_nil R e A L) h
theorem T_onil {A : Option Addr} {c' : Code} (R : Rep α) (e : TypeId) (h : T r n P c' ⟨D, E, osl R e A 0 [] :: L⟩ Q) : T r n P c' ⟨D, E, L⟩ Q := T_gives (osl_nil R e A L) h

/-! ### Literals -/
def fillL (pl : Nat → Option (Nat × Nat)) : List Value → List (Nat × List Value) → Option (List Value)
  | cs, [] => some cs
  | cs, (i, vs) :: rest => match pl i with
    | some (off, sz) => match Nat.beq vs.length sz with
      | true => match setN off cs vs with
        | some cs' => fillL pl cs' rest
        | none => none
      | false => none
    | none => none
def evp (E : Env) : List (Nat × Operand) → Option (List (Nat × List Value))
  | [] => some []
  | (i, x) :: r => match ev E x with
    | some v => match partsOf v with
      | some vs => match evp E r with
        | some r' => some ((i, vs) :: r')
        | none => none
      | none => none
    | none => none
theorem fold_set (off : Nat) : ∀ (vs : List Value) (k : Nat) (cs : List Value), off + k + vs.length ≤ cs.length →
    (vs.zipIdx k).foldl (fun (a : Array Value) (p : Value × Nat) => a.setIfInBounds (off + p.2) p.1) cs.toArray = (cs.take (off + k) ++ vs ++ cs.drop (off + k + vs.length)).toArray
  | [], k, cs, h => by simp
  | v :: vs, k, cs, h => by
    simp only [List.zipIdx_cons, List.foldl_cons, List.setIfInBounds_toArray]
    have ih := fold_set off vs (k + 1) (cs.set (off + k) v) (by simp at h ⊢; omega)
    rw [ih]
    congr 1
    have := list_seg_step cs (off + k) v vs (by simp at h; omega)
    rw [show off + (k + 1) = off + k + 1 by omega]
    rw [this]
    simp
theorem fill_eq {pl : Nat → Option (Nat × Nat)} : ∀ {ps : List (Nat × List Value)} {vs : List (Nat × Value)} {cs cs' : List Value}, ps.length = vs.length → (∀ (k : Nat) (p : Nat × List Value) (v : Nat × Value), ps[k]? = some p → vs[k]? = some v → p.1 = v.1 ∧ v.2.cells = p.2.toArray) → fillL pl cs ps = some cs' → Instr.fill pl cs.toArray vs = some cs'.toArray
  | [], [], cs, cs', _, _, h => by simp [fillL] at h; simp [Instr.fill, h]
  | [], _ :: _, _, _, hl, _, _ => by simp at hl
  | _ :: _, [], _, _, hl, _, _ => by simp at hl
  | (i, us) :: ps, (j, v) :: vs, cs, cs', hl, hp, h => by
    obtain ⟨e1, e2⟩ := hp 0 _ _ rfl rfl
    simp only at e1 e2
    subst e1
    simp only [fillL] at h
    split at h
    · rename_i off sz hpl
      split at h
      · rename_i hbeq
        split at h
        · rename_i cs1 hset
          obtain ⟨e3, hle⟩ := setN_eq hset
          have hsz : us.length = sz := Nat.eq_of_beq_eq_true hbeq
          have hfold := fold_set off us 0 cs (by simpa using hle)
          simp only [Nat.add_zero] at hfold
          rw [← e3] at hfold
          simp only [Instr.fill, hpl, e2, List.size_toArray, hsz]
          rw [if_neg (by simp; omega)]
          have : (us.toArray.zipIdx.foldl (fun cs (p : Value × Nat) => cs.setIfInBounds (off + p.2) p.1) cs.toArray) = cs1.toArray := by
            rw [← hfold]
            rw [← Array.foldl_toList, Array.toList_zipIdx]
          have h2 := fill_eq (pl := pl) (cs := cs1) (by simpa using hl) (fun k p v hk hv => hp (k + 1) p v (by simpa using hk) (by simpa using hv)) h
          rw [← h2]
          congr 1
        · cases h
      · cases h
    · cases h
theorem evp_eq {D : List Deferred} {a : Act} (ha : View n D a E) : ∀ {xs : List (Nat × Operand)} {ps : List (Nat × List Value)}, evp E xs = some ps → ps.length = (xs.map fun (p : Nat × Operand) => (p.1, a.eval p.2)).length ∧
    ∀ (k : Nat) (p : Nat × List Value) (v : Nat × Value), ps[k]? = some p → (xs.map fun (p : Nat × Operand) => (p.1, a.eval p.2))[k]? = some v → p.1 = v.1 ∧ v.2.cells = p.2.toArray
  | [], ps, h => by simp [evp] at h; subst h; simp
  | (i, x) :: xs, ps, h => by
    simp only [evp] at h
    split at h
    · rename_i v hv
      split at h
      · rename_i vs hvs
        split at h
        · rename_i r' hr
          cases h
          obtain ⟨h1, h2⟩ := evp_eq ha hr
          refine ⟨by simpa using h1, fun k p u hk hu => ?_⟩
          cases k with
          | zero =>
            simp at hk hu
            subst hk; subst hu
            exact ⟨rfl, by rw [ha.ev hv]; exact partsOf_eq hvs⟩
          | succ k => exact h2 k p u (by simpa using hk) (by simpa using hu)
        · cases h
      · cases h
    · cases h
def zerosN : Nat → List Value → List Value
  | 0, _ => []
  | k + 1, z => z ++ zerosN k z
theorem zerosN_length (z : List Value) : ∀ k, (zerosN k z).length = k * z.length
  | 0 => by simp [zerosN]
  | k + 1 => by simp [zerosN, zerosN_length z k, Nat.add_mul]; omega
theorem zerosN_at (z : List Value) : ∀ (k i : Nat), i < k * z.length → (zerosN k z)[i]? = some (z[i % z.length]!)
  | 0, i, h => by simp at h
  | k + 1, i, h => by
    simp only [zerosN]
    by_cases hi : i < z.length
    · rw [List.getElem?_append_left hi, Nat.mod_eq_of_lt hi, List.getElem?_eq_getElem hi, getElem!_pos z i hi]
    · rw [List.getElem?_append_right (by omega), zerosN_at z k (i - z.length) (by rw [Nat.add_mul] at h; omega)]
      rw [← Nat.mod_eq_sub_mod (by omega)]
theorem zerosN_array (z : List Value) (k : Nat) : (Array.range (k * z.length)).map (fun i => z.toArray[i % z.toArray.size]!) = (zerosN k z).toArray := by
  apply Array.ext_getElem?
  intro i
  by_cases hi : i < k * z.length
  · simp [hi, zerosN_at z k i hi]
  · rw [Array.getElem?_eq_none (by simp; omega), Array.getElem?_eq_none (by simp [zerosN_length]; omega)]
theorem TL_build_slice {t e : TypeId} {m len : Nat} {z : Value} {bytes : Nat} {parts : List (Nat × Operand)} {ps : List (Nat × List Value)} {zl cs : List Value} [ht : TyDesc P t (.slice e)] [he : TyElem P e z m bytes] [hz : TyZero P e z] (hd : Nat.blt d n = true) (hp : evp E parts = some ps) (hzl : partsOf z = some zl) (hzm : Nat.beq zl.length m = true) (hsmall : Nat.ble (len * m) 16777216 = true)
    (hfill : fillL (fun i => some (i * m, m)) (zerosN len zl) ps = some cs) (h : ∀ b, TL r n P ops rest ⟨D, (d, .slice (some ⟨b, 0, none⟩) len len) :: E, cells b cs e :: L⟩ K) :
    TL r n P ops (⟨some d, .buildSlice t len parts.toArray, ty, pos, af, none⟩ :: rest) ⟨D, E, L⟩ K :=
  TL_val rfl hd rfl (fun _ e => by cases e) fun W a w hh => by
    have hm : zl.length = m := Nat.eq_of_beq_eq_true hzm
    have hle : len * m ≤ 2 ^ 24 := by simpa using hsmall
    obtain ⟨e1, e2⟩ := evp_eq hh.1 hp
    have hf := fill_eq (pl := fun i => some (i * m, m)) e1 e2 hfill
    refine ⟨.slice (some ⟨w.heap.size, 0, none⟩) len len, w.alloc (.cells cs.toArray e), cells w.heap.size cs e :: L, ?_, hh.2.alloc _, h w.heap.size⟩
    have hzc := partsOf_eq hzl
    have hzero : ((Array.range (len * m)).map (fun i => (if len * m = 0 then (#[] : Array Value) else z.cells)[i % (if len * m = 0 then (#[] : Array Value) else z.cells).size]!)) = (zerosN len zl).toArray := by
      by_cases h0 : len * m = 0
      · rw [h0]
        have : (zerosN len zl) = [] := List.eq_nil_of_length_eq_zero (by rw [zerosN_length, hm]; exact h0)
        rw [this]
        simp
      · simp only [h0, if_false, hzc]
        rw [← hm]
        exact zerosN_array zl len
    simp only [execOp, Instr.buildSlice, Sem.run_bind, ht.run, Result.andThen_ok, TyElem.sz (e := e) (z := z) (bytes := bytes)]
    rw [if_neg (by omega)]
    by_cases h0 : len * m = 0
    · simp only [h0, if_true] at hzero ⊢
      simp only [Sem.run_bind, Sem.run_pure, Result.andThen_ok, hzero, List.map_toArray, hf, newRow, newObj, Sem.run]
      rfl
    · simp only [h0, if_false] at hzero ⊢
      simp only [Sem.run_bind, hz.run, Result.andThen_ok, Sem.run_pure, hzero, List.map_toArray, hf, newRow, newObj, Sem.run]
      rfl

/-- The places of a struct's fields: where, and how many cells. -/
class TyPlaces (P : Program) (t : TypeId) (pl : outParam (List (Nat × Nat))) : Prop where
  run : ∃ fs : Array Field, (∀ w, (underlying t).run P w = .ok (.struct fs) w) ∧ ∀ w, (fs.mapM fun f => do Pure.pure (f.offset, ← sizeOf f.type) : Sem (Array (Nat × Nat))).run P w = .ok pl.toArray w
def plN : List (Nat × Nat) → Nat → Option (Nat × Nat)
  | [], _ => none
  | p :: _, 0 => some p
  | _ :: l, k + 1 => plN l k
theorem plN_eq : ∀ (l : List (Nat × Nat)) (i : Nat), plN l i = l.toArray[i]?
  | [], i => by simp [plN]
  | p :: l, 0 => by simp [plN]
  | p :: l, k + 1 => by rw [plN, plN_eq l k]; simp
theorem Y_build {t : TypeId} {pl : List (Nat × Nat)} {parts : List (Nat × Operand)} {ps : List (Nat × List Value)} {zl cs : List Value} [ht : TyPlaces P t pl] [hz : TyZero P t (.agg zl.toArray)] (hp : evp E parts = some ps) (hfill : fillL (plN pl) zl ps = some cs) :
    Yl P E L (.build t parts.toArray) ty (.agg cs.toArray) := fun n D W a w dst pos af g ha hs => by
  obtain ⟨fs, h1, h2⟩ := ht.run
  obtain ⟨e1, e2⟩ := evp_eq ha hp
  have hf := fill_eq (pl := plN pl) e1 e2 hfill
  have hpl : plN pl = fun i => pl.toArray[i]? := funext fun i => plN_eq pl i
  rw [hpl] at hf
  simp only [execOp, Instr.build, Sem.run_bind, hz.run, Result.andThen_ok, h1, h2, Value.cells, List.map_toArray, hf, Sem.run_pure]
/-! ### Bytes and strings -/
end
end Go.SL
set_option linter.unusedVariables false
namespace Go.SL
open Go Go.Proofs
instance : TyAgg Try.prog 1 false := ⟨Try.isAgg1⟩
instance : TySize Try.prog 1 1 := ⟨Try.sizeOf1⟩
instance : TyZero Try.prog 1 Value.nilFunc := ⟨Try.zeroValue1⟩
instance : TyElem Try.prog 1 Value.nilFunc 1 8 := ⟨by kernel_rfl⟩
instance : TyDesc Try.prog 1 (TypeDesc.func #[] #[] false) := ⟨Try.runUnderlying1⟩
instance : TyAgg Try.prog 2 false := ⟨Try.isAgg2⟩
instance : TySize Try.prog 2 1 := ⟨Try.sizeOf2⟩
instance : TyZero Try.prog 2 (Value.int IntKind.i64 0) := ⟨Try.zeroValue2⟩
instance : TyElem Try.prog 2 (Value.int IntKind.i64 0) 1 8 := ⟨by kernel_rfl⟩
instance : TyDesc Try.prog 2 (TypeDesc.int IntKind.i64) := ⟨Try.runUnderlying2⟩
instance : TyAgg Try.prog 3 false := ⟨Try.isAgg3⟩
instance : TySize Try.prog 3 1 := ⟨Try.sizeOf3⟩
instance : TyZero Try.prog 3 (Value.int IntKind.i64 0) := ⟨Try.zeroValue3⟩
instance : TyElem Try.prog 3 (Value.int IntKind.i64 0) 1 8 := ⟨by kernel_rfl⟩
instance : TyDesc Try.prog 3 (TypeDesc.int IntKind.i64) := ⟨Try.runUnderlying3⟩
instance : TyAgg Try.prog 4 false := ⟨Try.isAgg4⟩
instance : TySize Try.prog 4 1 := ⟨Try.sizeOf4⟩
instance : TyZero Try.prog 4 (Value.bool false) := ⟨Try.zeroValue4⟩
instance : TyElem Try.prog 4 (Value.bool false) 1 1 := ⟨by kernel_rfl⟩
instance : TyDesc Try.prog 4 (TypeDesc.bool) := ⟨Try.runUnderlying4⟩
instance : TyAgg Try.prog 5 false := ⟨Try.isAgg5⟩
instance : TySize Try.prog 5 1 := ⟨Try.sizeOf5⟩
instance : TyZero Try.prog 5 (Value.int IntKind.u8 0) := ⟨Try.zeroValue5⟩
instance : TyElem Try.prog 5 (Value.int IntKind.u8 0) 1 1 := ⟨by kernel_rfl⟩
instance : TyDesc Try.prog 5 (TypeDesc.int IntKind.u8) := ⟨Try.runUnderlying5⟩
instance : TyAgg Try.prog 6 false := ⟨Try.isAgg6⟩
instance : TySize Try.prog 6 1 := ⟨Try.sizeOf6⟩
instance : TyZero Try.prog 6 (Value.int IntKind.u8 0) := ⟨Try.zeroValue6⟩
instance : TyElem Try.prog 6 (Value.int IntKind.u8 0) 1 1 := ⟨by kernel_rfl⟩
instance : TyDesc Try.prog 6 (TypeDesc.int IntKind.u8) := ⟨Try.runUnderlying6⟩
instance : TyAgg Try.prog 7 true := ⟨Try.isAgg7⟩
instance : TySize Try.prog 7 4 := ⟨Try.sizeOf7⟩
instance : TyZero Try.prog 7 (Value.agg #[(Value.int IntKind.i64 0), (Value.int IntKind.i64 0), (Value.bool false), (Value.int IntKind.u8 0)]) := ⟨Try.zeroValue7⟩
instance : TyElem Try.prog 7 (Value.agg #[(Value.int IntKind.i64 0), (Value.int IntKind.i64 0), (Value.bool false), (Value.int IntKind.u8 0)]) 4 24 := ⟨by kernel_rfl⟩
instance : TyField Try.prog 7 0 0 2 := ⟨_, _, Try.runUnderlying7, rfl, rfl, rfl, _, by decide, Try.sizeOf2⟩
instance : TyField Try.prog 7 1 1 3 := ⟨_, _, Try.runUnderlying7, rfl, rfl, rfl, _, by decide, Try.sizeOf3⟩
instance : TyField Try.prog 7 2 2 4 := ⟨_, _, Try.runUnderlying7, rfl, rfl, rfl, _, by decide, Try.sizeOf4⟩
instance : TyField Try.prog 7 3 3 6 := ⟨_, _, Try.runUnderlying7, rfl, rfl, rfl, _, by decide, Try.sizeOf6⟩
instance : TyPlaces Try.prog 7 [(0, 1), (1, 1), (2, 1), (3, 1)] := ⟨_, Try.runUnderlying7, fun w => by simp [Try.sizeOf2, Try.sizeOf3, Try.sizeOf4, Try.sizeOf6]⟩
instance : TyAgg Try.prog 8 true := ⟨Try.isAgg8⟩
instance : TySize Try.prog 8 4 := ⟨Try.sizeOf8⟩
instance : TyZero Try.prog 8 (Value.agg #[(Value.int IntKind.i64 0), (Value.int IntKind.i64 0), (Value.bool false), (Value.int IntKind.u8 0)]) := ⟨Try.zeroValue8⟩
instance : TyElem Try.prog 8 (Value.agg #[(Value.int IntKind.i64 0), (Value.int IntKind.i64 0), (Value.bool false), (Value.int IntKind.u8 0)]) 4 24 := ⟨by kernel_rfl⟩
instance : TyField Try.prog 8 0 0 2 := ⟨_, _, Try.runUnderlying8, rfl, rfl, rfl, _, by decide, Try.sizeOf2⟩
instance : TyField Try.prog 8 1 1 3 := ⟨_, _, Try.runUnderlying8, rfl, rfl, rfl, _, by decide, Try.sizeOf3⟩
instance : TyField Try.prog 8 2 2 4 := ⟨_, _, Try.runUnderlying8, rfl, rfl, rfl, _, by decide, Try.sizeOf4⟩
instance : TyField Try.prog 8 3 3 6 := ⟨_, _, Try.runUnderlying8, rfl, rfl, rfl, _, by decide, Try.sizeOf6⟩
instance : TyPlaces Try.prog 8 [(0, 1), (1, 1), (2, 1), (3, 1)] := ⟨_, Try.runUnderlying8, fun w => by simp [Try.sizeOf2, Try.sizeOf3, Try.sizeOf4, Try.sizeOf6]⟩
instance : TyAgg Try.prog 9 false := ⟨Try.isAgg9⟩
instance : TySize Try.prog 9 1 := ⟨Try.sizeOf9⟩
instance : TyZero Try.prog 9 (Value.string { data := #[] }) := ⟨Try.zeroValue9⟩
instance : TyElem Try.prog 9 (Value.string { data := #[] }) 1 16 := ⟨by kernel_rfl⟩
instance : TyDesc Try.prog 9 (TypeDesc.string) := ⟨Try.runUnderlying9⟩
instance : TyAgg Try.prog 22 false := ⟨Try.isAgg22⟩
instance : TySize Try.prog 22 1 := ⟨Try.sizeOf22⟩
instance : TyZero Try.prog 22 (Value.slice none 0 0) := ⟨Try.zeroValue22⟩
instance : TyElem Try.prog 22 (Value.slice none 0 0) 1 24 := ⟨by kernel_rfl⟩
instance : TyDesc Try.prog 22 (TypeDesc.slice 29) := ⟨Try.runUnderlying22⟩
instance : TyAgg Try.prog 26 true := ⟨Try.isAgg26⟩
instance : TySize Try.prog 26 2 := ⟨Try.sizeOf26⟩
instance : TyZero Try.prog 26 (Value.agg #[(Value.int IntKind.i64 0), (Value.int IntKind.i64 0)]) := ⟨Try.zeroValue26⟩
instance : TyElem Try.prog 26 (Value.agg #[(Value.int IntKind.i64 0), (Value.int IntKind.i64 0)]) 2 16 := ⟨by kernel_rfl⟩
instance : TyField Try.prog 26 0 0 3 := ⟨_, _, Try.runUnderlying26, rfl, rfl, rfl, _, by decide, Try.sizeOf3⟩
instance : TyField Try.prog 26 1 1 3 := ⟨_, _, Try.runUnderlying26, rfl, rfl, rfl, _, by decide, Try.sizeOf3⟩
instance : TyPlaces Try.prog 26 [(0, 1), (1, 1)] := ⟨_, Try.runUnderlying26, fun w => by simp [Try.sizeOf3]⟩
instance : TyAgg Try.prog 27 false := ⟨Try.isAgg27⟩
instance : TySize Try.prog 27 1 := ⟨Try.sizeOf27⟩
instance : TyZero Try.prog 27 (Value.slice none 0 0) := ⟨Try.zeroValue27⟩
instance : TyElem Try.prog 27 (Value.slice none 0 0) 1 24 := ⟨by kernel_rfl⟩
instance : TyDesc Try.prog 27 (TypeDesc.slice 3) := ⟨Try.runUnderlying27⟩
instance : TyAgg Try.prog 29 true := ⟨Try.isAgg29⟩
instance : TySize Try.prog 29 8 := ⟨Try.sizeOf29⟩
instance : TyZero Try.prog 29 (Value.agg #[(Value.int IntKind.i64 0), (Value.int IntKind.i64 0), (Value.slice none 0 0), (Value.string { data := #[] }), (Value.int IntKind.i64 0), (Value.string { data := #[] }), (Value.int IntKind.i64 0), (Value.bool false)]) := ⟨Try.zeroValue29⟩
instance : TyElem Try.prog 29 (Value.agg #[(Value.int IntKind.i64 0), (Value.int IntKind.i64 0), (Value.slice none 0 0), (Value.string { data := #[] }), (Value.int IntKind.i64 0), (Value.string { data := #[] }), (Value.int IntKind.i64 0), (Value.bool false)]) 8 96 := ⟨by kernel_rfl⟩
instance : TyField Try.prog 29 0 0 26 := ⟨_, _, Try.runUnderlying29, rfl, rfl, rfl, _, by decide, Try.sizeOf26⟩
instance : TyField Try.prog 29 1 2 27 := ⟨_, _, Try.runUnderlying29, rfl, rfl, rfl, _, by decide, Try.sizeOf27⟩
instance : TyField Try.prog 29 2 3 9 := ⟨_, _, Try.runUnderlying29, rfl, rfl, rfl, _, by decide, Try.sizeOf9⟩
instance : TyField Try.prog 29 3 4 3 := ⟨_, _, Try.runUnderlying29, rfl, rfl, rfl, _, by decide, Try.sizeOf3⟩
instance : TyField Try.prog 29 4 5 9 := ⟨_, _, Try.runUnderlying29, rfl, rfl, rfl, _, by decide, Try.sizeOf9⟩
instance : TyField Try.prog 29 5 6 3 := ⟨_, _, Try.runUnderlying29, rfl, rfl, rfl, _, by decide, Try.sizeOf3⟩
instance : TyField Try.prog 29 6 7 4 := ⟨_, _, Try.runUnderlying29, rfl, rfl, rfl, _, by decide, Try.sizeOf4⟩
instance : TyPlaces Try.prog 29 [(0, 2), (2, 1), (3, 1), (4, 1), (5, 1), (6, 1), (7, 1)] := ⟨_, Try.runUnderlying29, fun w => by simp [Try.sizeOf26, Try.sizeOf27, Try.sizeOf3, Try.sizeOf4, Try.sizeOf9]⟩
instance : TyAgg Try.prog 32 false := ⟨Try.isAgg32⟩
instance : TySize Try.prog 32 1 := ⟨Try.sizeOf32⟩
instance : TyZero Try.prog 32 (Value.slice none 0 0) := ⟨Try.zeroValue32⟩
instance : TyElem Try.prog 32 (Value.slice none 0 0) 1 24 := ⟨by kernel_rfl⟩
instance : TyDesc Try.prog 32 (TypeDesc.slice 65) := ⟨Try.runUnderlying32⟩
instance : TyAgg Try.prog 40 false := ⟨Try.isAgg40⟩
instance : TySize Try.prog 40 1 := ⟨Try.sizeOf40⟩
instance : TyZero Try.prog 40 (Value.int IntKind.i64 0) := ⟨Try.zeroValue40⟩
instance : TyElem Try.prog 40 (Value.int IntKind.i64 0) 1 8 := ⟨by kernel_rfl⟩
instance : TyDesc Try.prog 40 (TypeDesc.int IntKind.i64) := ⟨Try.runUnderlying40⟩
instance : TyAgg Try.prog 42 false := ⟨Try.isAgg42⟩
instance : TySize Try.prog 42 1 := ⟨Try.sizeOf42⟩
instance : TyZero Try.prog 42 Value.nilFunc := ⟨Try.zeroValue42⟩
instance : TyElem Try.prog 42 Value.nilFunc 1 8 := ⟨by kernel_rfl⟩
instance : TyDesc Try.prog 42 (TypeDesc.func #[27, 3, 3] #[27, 40] false) := ⟨Try.runUnderlying42⟩
instance : TyAgg Try.prog 43 false := ⟨Try.isAgg43⟩
instance : TySize Try.prog 43 1 := ⟨Try.sizeOf43⟩
instance : TyZero Try.prog 43 (Value.slice none 0 0) := ⟨Try.zeroValue43⟩
instance : TyElem Try.prog 43 (Value.slice none 0 0) 1 24 := ⟨by kernel_rfl⟩
instance : TyDesc Try.prog 43 (TypeDesc.slice 53) := ⟨Try.runUnderlying43⟩
instance : TyAgg Try.prog 50 false := ⟨Try.isAgg50⟩
instance : TySize Try.prog 50 1 := ⟨Try.sizeOf50⟩
instance : TyZero Try.prog 50 Value.nilFunc := ⟨Try.zeroValue50⟩
instance : TyElem Try.prog 50 Value.nilFunc 1 8 := ⟨by kernel_rfl⟩
instance : TyDesc Try.prog 50 (TypeDesc.func #[22, 43] #[22, 22] false) := ⟨Try.runUnderlying50⟩
instance : TyAgg Try.prog 51 false := ⟨Try.isAgg51⟩
instance : TySize Try.prog 51 1 := ⟨Try.sizeOf51⟩
instance : TyZero Try.prog 51 Value.nilFunc := ⟨Try.zeroValue51⟩
instance : TyElem Try.prog 51 Value.nilFunc 1 8 := ⟨by kernel_rfl⟩
instance : TyDesc Try.prog 51 (TypeDesc.func #[22, 43, 43] #[4] false) := ⟨Try.runUnderlying51⟩
instance : TyAgg Try.prog 53 true := ⟨Try.isAgg53⟩
instance : TySize Try.prog 53 4 := ⟨Try.sizeOf53⟩
instance : TyZero Try.prog 53 (Value.agg #[(Value.string { data := #[] }), (Value.string { data := #[] }), (Value.int IntKind.i64 0), (Value.slice none 0 0)]) := ⟨Try.zeroValue53⟩
instance : TyElem Try.prog 53 (Value.agg #[(Value.string { data := #[] }), (Value.string { data := #[] }), (Value.int IntKind.i64 0), (Value.slice none 0 0)]) 4 64 := ⟨by kernel_rfl⟩
instance : TyField Try.prog 53 0 0 9 := ⟨_, _, Try.runUnderlying53, rfl, rfl, rfl, _, by decide, Try.sizeOf9⟩
instance : TyField Try.prog 53 1 1 9 := ⟨_, _, Try.runUnderlying53, rfl, rfl, rfl, _, by decide, Try.sizeOf9⟩
instance : TyField Try.prog 53 2 2 3 := ⟨_, _, Try.runUnderlying53, rfl, rfl, rfl, _, by decide, Try.sizeOf3⟩
instance : TyField Try.prog 53 3 3 27 := ⟨_, _, Try.runUnderlying53, rfl, rfl, rfl, _, by decide, Try.sizeOf27⟩
instance : TyPlaces Try.prog 53 [(0, 1), (1, 1), (2, 1), (3, 1)] := ⟨_, Try.runUnderlying53, fun w => by simp [Try.sizeOf27, Try.sizeOf3, Try.sizeOf9]⟩
instance : TyAgg Try.prog 54 false := ⟨Try.isAgg54⟩
instance : TySize Try.prog 54 1 := ⟨Try.sizeOf54⟩
instance : TyZero Try.prog 54 Value.nilFunc := ⟨Try.zeroValue54⟩
instance : TyElem Try.prog 54 Value.nilFunc 1 8 := ⟨by kernel_rfl⟩
instance : TyDesc Try.prog 54 (TypeDesc.func #[32, 32] #[4] false) := ⟨Try.runUnderlying54⟩
instance : TyAgg Try.prog 55 false := ⟨Try.isAgg55⟩
instance : TySize Try.prog 55 1 := ⟨Try.sizeOf55⟩
instance : TyZero Try.prog 55 Value.nilFunc := ⟨Try.zeroValue55⟩
instance : TyElem Try.prog 55 Value.nilFunc 1 8 := ⟨by kernel_rfl⟩
instance : TyDesc Try.prog 55 (TypeDesc.func #[22, 43, 9, 3] #[32] false) := ⟨Try.runUnderlying55⟩
instance : TyAgg Try.prog 64 true := ⟨Try.isAgg64⟩
instance : TySize Try.prog 64 2 := ⟨Try.sizeOf64⟩
instance : TyZero Try.prog 64 (Value.agg #[(Value.string { data := #[] }), (Value.int IntKind.i64 0)]) := ⟨Try.zeroValue64⟩
instance : TyElem Try.prog 64 (Value.agg #[(Value.string { data := #[] }), (Value.int IntKind.i64 0)]) 2 24 := ⟨by kernel_rfl⟩
instance : TyField Try.prog 64 0 0 9 := ⟨_, _, Try.runUnderlying64, rfl, rfl, rfl, _, by decide, Try.sizeOf9⟩
instance : TyField Try.prog 64 1 1 3 := ⟨_, _, Try.runUnderlying64, rfl, rfl, rfl, _, by decide, Try.sizeOf3⟩
instance : TyPlaces Try.prog 64 [(0, 1), (1, 1)] := ⟨_, Try.runUnderlying64, fun w => by simp [Try.sizeOf3, Try.sizeOf9]⟩
instance : TyAgg Try.prog 65 true := ⟨Try.isAgg65⟩
instance : TySize Try.prog 65 2 := ⟨Try.sizeOf65⟩
instance : TyZero Try.prog 65 (Value.agg #[(Value.string { data := #[] }), (Value.int IntKind.i64 0)]) := ⟨Try.zeroValue65⟩
instance : TyElem Try.prog 65 (Value.agg #[(Value.string { data := #[] }), (Value.int IntKind.i64 0)]) 2 24 := ⟨by kernel_rfl⟩
instance : TyField Try.prog 65 0 0 9 := ⟨_, _, Try.runUnderlying65, rfl, rfl, rfl, _, by decide, Try.sizeOf9⟩
instance : TyField Try.prog 65 1 1 3 := ⟨_, _, Try.runUnderlying65, rfl, rfl, rfl, _, by decide, Try.sizeOf3⟩
instance : TyPlaces Try.prog 65 [(0, 1), (1, 1)] := ⟨_, Try.runUnderlying65, fun w => by simp [Try.sizeOf3, Try.sizeOf9]⟩
instance : TyAgg Try.prog 66 false := ⟨Try.isAgg66⟩
instance : TySize Try.prog 66 1 := ⟨Try.sizeOf66⟩
instance : TyZero Try.prog 66 Value.nilFunc := ⟨Try.zeroValue66⟩
instance : TyElem Try.prog 66 Value.nilFunc 1 8 := ⟨by kernel_rfl⟩
instance : TyDesc Try.prog 66 (TypeDesc.func #[22] #[22] false) := ⟨Try.runUnderlying66⟩
instance : TyAgg Try.prog 68 false := ⟨Try.isAgg68⟩
instance : TySize Try.prog 68 1 := ⟨Try.sizeOf68⟩
instance : TyZero Try.prog 68 (Value.map none) := ⟨Try.zeroValue68⟩
instance : TyElem Try.prog 68 (Value.map none) 1 8 := ⟨by kernel_rfl⟩
instance : TyDesc Try.prog 68 (TypeDesc.map 9 3) := ⟨Try.runUnderlying68⟩
instance : TyAgg Try.prog 69 false := ⟨Try.isAgg69⟩
instance : TySize Try.prog 69 1 := ⟨Try.sizeOf69⟩
instance : TyZero Try.prog 69 (Value.slice none 0 0) := ⟨Try.zeroValue69⟩
instance : TyElem Try.prog 69 (Value.slice none 0 0) 1 24 := ⟨by kernel_rfl⟩
instance : TyDesc Try.prog 69 (TypeDesc.slice 9) := ⟨Try.runUnderlying69⟩
instance : TyAgg Try.prog 71 false := ⟨Try.isAgg71⟩
instance : TySize Try.prog 71 1 := ⟨Try.sizeOf71⟩
instance : TyZero Try.prog 71 Value.nilFunc := ⟨Try.zeroValue71⟩
instance : TyElem Try.prog 71 Value.nilFunc 1 8 := ⟨by kernel_rfl⟩
instance : TyDesc Try.prog 71 (TypeDesc.func #[98] #[] false) := ⟨Try.runUnderlying71⟩
instance : TyAgg Try.prog 72 false := ⟨Try.isAgg72⟩
instance : TySize Try.prog 72 1 := ⟨Try.sizeOf72⟩
instance : TyZero Try.prog 72 Value.nilFunc := ⟨Try.zeroValue72⟩
instance : TyElem Try.prog 72 Value.nilFunc 1 8 := ⟨by kernel_rfl⟩
instance : TyDesc Try.prog 72 (TypeDesc.func #[98] #[] false) := ⟨Try.runUnderlying72⟩
instance : TyAgg Try.prog 75 false := ⟨Try.isAgg75⟩
instance : TySize Try.prog 75 1 := ⟨Try.sizeOf75⟩
instance : TyZero Try.prog 75 Value.nilFunc := ⟨Try.zeroValue75⟩
instance : TyElem Try.prog 75 Value.nilFunc 1 8 := ⟨by kernel_rfl⟩
instance : TyDesc Try.prog 75 (TypeDesc.func #[29] #[4] false) := ⟨Try.runUnderlying75⟩
instance : TyAgg Try.prog 77 false := ⟨Try.isAgg77⟩
instance : TySize Try.prog 77 1 := ⟨Try.sizeOf77⟩
instance : TyZero Try.prog 77 Value.nilFunc := ⟨Try.zeroValue77⟩
instance : TyElem Try.prog 77 Value.nilFunc 1 8 := ⟨by kernel_rfl⟩
instance : TyDesc Try.prog 77 (TypeDesc.func #[27] #[27] false) := ⟨Try.runUnderlying77⟩
instance : TyAgg Try.prog 78 false := ⟨Try.isAgg78⟩
instance : TySize Try.prog 78 1 := ⟨Try.sizeOf78⟩
instance : TyZero Try.prog 78 Value.nilFunc := ⟨Try.zeroValue78⟩
instance : TyElem Try.prog 78 Value.nilFunc 1 8 := ⟨by kernel_rfl⟩
instance : TyDesc Try.prog 78 (TypeDesc.func #[53] #[4] false) := ⟨Try.runUnderlying78⟩
instance : TyAgg Try.prog 79 false := ⟨Try.isAgg79⟩
instance : TySize Try.prog 79 1 := ⟨Try.sizeOf79⟩
instance : TyZero Try.prog 79 (Value.slice none 0 0) := ⟨Try.zeroValue79⟩
instance : TyElem Try.prog 79 (Value.slice none 0 0) 1 24 := ⟨by kernel_rfl⟩
instance : TyDesc Try.prog 79 (TypeDesc.slice 5) := ⟨Try.runUnderlying79⟩
instance : TyAgg Try.prog 88 false := ⟨Try.isAgg88⟩
instance : TySize Try.prog 88 1 := ⟨Try.sizeOf88⟩
instance : TyZero Try.prog 88 Value.nilFunc := ⟨Try.zeroValue88⟩
instance : TyElem Try.prog 88 Value.nilFunc 1 8 := ⟨by kernel_rfl⟩
instance : TyDesc Try.prog 88 (TypeDesc.func #[29, 29] #[3] false) := ⟨Try.runUnderlying88⟩
instance : TyAgg Try.prog 89 false := ⟨Try.isAgg89⟩
instance : TySize Try.prog 89 1 := ⟨Try.sizeOf89⟩
instance : TyZero Try.prog 89 (Value.map none) := ⟨Try.zeroValue89⟩
instance : TyElem Try.prog 89 (Value.map none) 1 8 := ⟨by kernel_rfl⟩
instance : TyDesc Try.prog 89 (TypeDesc.map 94 92) := ⟨Try.runUnderlying89⟩
instance : TyAgg Try.prog 92 false := ⟨Try.isAgg92⟩
instance : TySize Try.prog 92 1 := ⟨Try.sizeOf92⟩
instance : TyZero Try.prog 92 (Value.slice none 0 0) := ⟨Try.zeroValue92⟩
instance : TyElem Try.prog 92 (Value.slice none 0 0) 1 24 := ⟨by kernel_rfl⟩
instance : TyDesc Try.prog 92 (TypeDesc.slice 27) := ⟨Try.runUnderlying92⟩
instance : TyAgg Try.prog 94 true := ⟨Try.isAgg94⟩
instance : TySize Try.prog 94 2 := ⟨Try.sizeOf94⟩
instance : TyZero Try.prog 94 (Value.agg #[(Value.string { data := #[] }), (Value.string { data := #[] })]) := ⟨Try.zeroValue94⟩
instance : TyElem Try.prog 94 (Value.agg #[(Value.string { data := #[] }), (Value.string { data := #[] })]) 2 32 := ⟨by kernel_rfl⟩
instance : TyField Try.prog 94 0 0 9 := ⟨_, _, Try.runUnderlying94, rfl, rfl, rfl, _, by decide, Try.sizeOf9⟩
instance : TyField Try.prog 94 1 1 9 := ⟨_, _, Try.runUnderlying94, rfl, rfl, rfl, _, by decide, Try.sizeOf9⟩
instance : TyPlaces Try.prog 94 [(0, 1), (1, 1)] := ⟨_, Try.runUnderlying94, fun w => by simp [Try.sizeOf9]⟩
instance : TyAgg Try.prog 95 false := ⟨Try.isAgg95⟩
instance : TySize Try.prog 95 1 := ⟨Try.sizeOf95⟩
instance : TyZero Try.prog 95 Value.nilFunc := ⟨Try.zeroValue95⟩
instance : TyElem Try.prog 95 Value.nilFunc 1 8 := ⟨by kernel_rfl⟩
instance : TyDesc Try.prog 95 (TypeDesc.func #[27] #[4] false) := ⟨Try.runUnderlying95⟩
instance : TyAgg Try.prog 96 false := ⟨Try.isAgg96⟩
instance : TySize Try.prog 96 1 := ⟨Try.sizeOf96⟩
instance : TyZero Try.prog 96 (Value.map none) := ⟨Try.zeroValue96⟩
instance : TyElem Try.prog 96 (Value.map none) 1 8 := ⟨by kernel_rfl⟩
instance : TyDesc Try.prog 96 (TypeDesc.map 26 4) := ⟨Try.runUnderlying96⟩
instance : TyAgg Try.prog 97 false := ⟨Try.isAgg97⟩
instance : TySize Try.prog 97 1 := ⟨Try.sizeOf97⟩
instance : TyZero Try.prog 97 Value.nilFunc := ⟨Try.zeroValue97⟩
instance : TyElem Try.prog 97 Value.nilFunc 1 8 := ⟨by kernel_rfl⟩
instance : TyDesc Try.prog 97 (TypeDesc.func #[69] #[] false) := ⟨Try.runUnderlying97⟩
instance : TyAgg Try.prog 98 false := ⟨Try.isAgg98⟩
instance : TySize Try.prog 98 1 := ⟨Try.sizeOf98⟩
instance : TyZero Try.prog 98 Value.nilFunc := ⟨Try.zeroValue98⟩
instance : TyElem Try.prog 98 Value.nilFunc 1 8 := ⟨by kernel_rfl⟩
instance : TyDesc Try.prog 98 (TypeDesc.func #[9] #[4] false) := ⟨Try.runUnderlying98⟩
instance : TyAgg Try.prog 99 false := ⟨Try.isAgg99⟩
instance : TySize Try.prog 99 1 := ⟨Try.sizeOf99⟩
instance : TyZero Try.prog 99 Value.nilFunc := ⟨Try.zeroValue99⟩
instance : TyElem Try.prog 99 Value.nilFunc 1 8 := ⟨by kernel_rfl⟩
instance : TyDesc Try.prog 99 (TypeDesc.func #[29] #[29] false) := ⟨Try.runUnderlying99⟩
instance : TyAgg Try.prog 101 false := ⟨Try.isAgg101⟩
instance : TySize Try.prog 101 1 := ⟨Try.sizeOf101⟩
instance : TyZero Try.prog 101 Value.nilFunc := ⟨Try.zeroValue101⟩
instance : TyElem Try.prog 101 Value.nilFunc 1 8 := ⟨by kernel_rfl⟩
instance : TyDesc Try.prog 101 (TypeDesc.func #[104] #[79, 40] false) := ⟨Try.runUnderlying101⟩
instance : TyAgg Try.prog 102 false := ⟨Try.isAgg102⟩
instance : TySize Try.prog 102 1 := ⟨Try.sizeOf102⟩
instance : TyZero Try.prog 102 (Value.pointer none) := ⟨Try.zeroValue102⟩
instance : TyElem Try.prog 102 (Value.pointer none) 1 8 := ⟨by kernel_rfl⟩
instance : TyDesc Try.prog 102 (TypeDesc.pointer 114) := ⟨Try.runUnderlying102⟩
instance : TyAgg Try.prog 103 false := ⟨Try.isAgg103⟩
instance : TySize Try.prog 103 1 := ⟨Try.sizeOf103⟩
instance : TyZero Try.prog 103 Value.nilFunc := ⟨Try.zeroValue103⟩
instance : TyElem Try.prog 103 Value.nilFunc 1 8 := ⟨by kernel_rfl⟩
instance : TyDesc Try.prog 103 (TypeDesc.func #[53] #[] false) := ⟨Try.runUnderlying103⟩
instance : TyAgg Try.prog 104 false := ⟨Try.isAgg104⟩
instance : TySize Try.prog 104 1 := ⟨Try.sizeOf104⟩
instance : TyZero Try.prog 104 Value.nilFunc := ⟨Try.zeroValue104⟩
instance : TyElem Try.prog 104 Value.nilFunc 1 8 := ⟨by kernel_rfl⟩
instance : TyDesc Try.prog 104 (TypeDesc.func #[102] #[] false) := ⟨Try.runUnderlying104⟩
instance : TyAgg Try.prog 105 false := ⟨Try.isAgg105⟩
instance : TySize Try.prog 105 1 := ⟨Try.sizeOf105⟩
instance : TyZero Try.prog 105 (Value.slice none 0 0) := ⟨Try.zeroValue105⟩
instance : TyElem Try.prog 105 (Value.slice none 0 0) 1 24 := ⟨by kernel_rfl⟩
instance : TyDesc Try.prog 105 (TypeDesc.slice 22) := ⟨Try.runUnderlying105⟩
instance : TyAgg Try.prog 108 false := ⟨Try.isAgg108⟩
instance : TySize Try.prog 108 1 := ⟨Try.sizeOf108⟩
instance : TyZero Try.prog 108 Value.nilFunc := ⟨Try.zeroValue108⟩
instance : TyElem Try.prog 108 Value.nilFunc 1 8 := ⟨by kernel_rfl⟩
instance : TyDesc Try.prog 108 (TypeDesc.func #[92, 95] #[3] false) := ⟨Try.runUnderlying108⟩
instance : TyAgg Try.prog 110 false := ⟨Try.isAgg110⟩
instance : TySize Try.prog 110 1 := ⟨Try.sizeOf110⟩
instance : TyZero Try.prog 110 Value.nilFunc := ⟨Try.zeroValue110⟩
instance : TyElem Try.prog 110 Value.nilFunc 1 8 := ⟨by kernel_rfl⟩
instance : TyDesc Try.prog 110 (TypeDesc.func #[69, 3, 3, 3] #[] false) := ⟨Try.runUnderlying110⟩
instance : TyAgg Try.prog 111 false := ⟨Try.isAgg111⟩
instance : TySize Try.prog 111 1 := ⟨Try.sizeOf111⟩
instance : TyZero Try.prog 111 Value.nilFunc := ⟨Try.zeroValue111⟩
instance : TyElem Try.prog 111 Value.nilFunc 1 8 := ⟨by kernel_rfl⟩
instance : TyDesc Try.prog 111 (TypeDesc.func #[112] #[3] false) := ⟨Try.runUnderlying111⟩
instance : TyAgg Try.prog 112 false := ⟨Try.isAgg112⟩
instance : TySize Try.prog 112 1 := ⟨Try.sizeOf112⟩
instance : TyZero Try.prog 112 (Value.int IntKind.u64 0) := ⟨Try.zeroValue112⟩
instance : TyElem Try.prog 112 (Value.int IntKind.u64 0) 1 8 := ⟨by kernel_rfl⟩
instance : TyDesc Try.prog 112 (TypeDesc.int IntKind.u64) := ⟨Try.runUnderlying112⟩
instance : TyAgg Try.prog 114 true := ⟨Try.isAgg114⟩
instance : TySize Try.prog 114 2 := ⟨Try.sizeOf114⟩
instance : TyZero Try.prog 114 (Value.agg #[(Value.slice none 0 0), (Value.bool false)]) := ⟨Try.zeroValue114⟩
instance : TyElem Try.prog 114 (Value.agg #[(Value.slice none 0 0), (Value.bool false)]) 2 32 := ⟨by kernel_rfl⟩
instance : TyField Try.prog 114 0 0 79 := ⟨_, _, Try.runUnderlying114, rfl, rfl, rfl, _, by decide, Try.sizeOf79⟩
instance : TyField Try.prog 114 1 1 4 := ⟨_, _, Try.runUnderlying114, rfl, rfl, rfl, _, by decide, Try.sizeOf4⟩
instance : TyPlaces Try.prog 114 [(0, 1), (1, 1)] := ⟨_, Try.runUnderlying114, fun w => by simp [Try.sizeOf4, Try.sizeOf79]⟩
instance : TyAgg Try.prog 116 false := ⟨Try.isAgg116⟩
instance : TySize Try.prog 116 1 := ⟨Try.sizeOf116⟩
instance : TyZero Try.prog 116 Value.nilFunc := ⟨Try.zeroValue116⟩
instance : TyElem Try.prog 116 Value.nilFunc 1 8 := ⟨by kernel_rfl⟩
instance : TyDesc Try.prog 116 (TypeDesc.func #[3, 3] #[] false) := ⟨Try.runUnderlying116⟩
instance : TyAgg Try.prog 117 false := ⟨Try.isAgg117⟩
instance : TySize Try.prog 117 1 := ⟨Try.sizeOf117⟩
instance : TyZero Try.prog 117 Value.nilFunc := ⟨Try.zeroValue117⟩
instance : TyElem Try.prog 117 Value.nilFunc 1 8 := ⟨by kernel_rfl⟩
instance : TyDesc Try.prog 117 (TypeDesc.func #[27] #[] false) := ⟨Try.runUnderlying117⟩
instance : TyAgg Try.prog 118 false := ⟨Try.isAgg118⟩
instance : TySize Try.prog 118 1 := ⟨Try.sizeOf118⟩
instance : TyZero Try.prog 118 Value.nilFunc := ⟨Try.zeroValue118⟩
instance : TyElem Try.prog 118 Value.nilFunc 1 8 := ⟨by kernel_rfl⟩
instance : TyDesc Try.prog 118 (TypeDesc.func #[22, 3, 3, 88] #[] false) := ⟨Try.runUnderlying118⟩
instance : TyAgg Try.prog 121 false := ⟨Try.isAgg121⟩
instance : TySize Try.prog 121 1 := ⟨Try.sizeOf121⟩
instance : TyZero Try.prog 121 (Value.int IntKind.i64 0) := ⟨Try.zeroValue121⟩
instance : TyElem Try.prog 121 (Value.int IntKind.i64 0) 1 8 := ⟨by kernel_rfl⟩
instance : TyDesc Try.prog 121 (TypeDesc.int IntKind.i64) := ⟨Try.runUnderlying121⟩
instance : TyAgg Try.prog 129 false := ⟨Try.isAgg129⟩
instance : TySize Try.prog 129 1 := ⟨Try.sizeOf129⟩
instance : TyZero Try.prog 129 (Value.int IntKind.u32 0) := ⟨Try.zeroValue129⟩
instance : TyElem Try.prog 129 (Value.int IntKind.u32 0) 1 4 := ⟨by kernel_rfl⟩
instance : TyDesc Try.prog 129 (TypeDesc.int IntKind.u32) := ⟨Try.runUnderlying129⟩
instance : TyAgg Try.prog 131 false := ⟨Try.isAgg131⟩
instance : TySize Try.prog 131 1 := ⟨Try.sizeOf131⟩
instance : TyZero Try.prog 131 (Value.int IntKind.u64 0) := ⟨Try.zeroValue131⟩
instance : TyElem Try.prog 131 (Value.int IntKind.u64 0) 1 8 := ⟨by kernel_rfl⟩
instance : TyDesc Try.prog 131 (TypeDesc.int IntKind.u64) := ⟨Try.runUnderlying131⟩
instance : TyAgg Try.prog 133 false := ⟨Try.isAgg133⟩
instance : TySize Try.prog 133 1 := ⟨Try.sizeOf133⟩
instance : TyZero Try.prog 133 (Value.int IntKind.u64 0) := ⟨Try.zeroValue133⟩
instance : TyElem Try.prog 133 (Value.int IntKind.u64 0) 1 8 := ⟨by kernel_rfl⟩
instance : TyDesc Try.prog 133 (TypeDesc.int IntKind.u64) := ⟨Try.runUnderlying133⟩
instance : TyAgg Try.prog 137 false := ⟨Try.isAgg137⟩
instance : TySize Try.prog 137 1 := ⟨Try.sizeOf137⟩
instance : TyZero Try.prog 137 (Value.pointer none) := ⟨Try.zeroValue137⟩
instance : TyElem Try.prog 137 (Value.pointer none) 1 8 := ⟨by kernel_rfl⟩
instance : TyDesc Try.prog 137 (TypeDesc.pointer 3) := ⟨Try.runUnderlying137⟩
instance : TyAgg Try.prog 139 false := ⟨Try.isAgg139⟩
instance : TySize Try.prog 139 1 := ⟨Try.sizeOf139⟩
instance : TyZero Try.prog 139 (Value.pointer none) := ⟨Try.zeroValue139⟩
instance : TyElem Try.prog 139 (Value.pointer none) 1 8 := ⟨by kernel_rfl⟩
instance : TyDesc Try.prog 139 (TypeDesc.pointer 133) := ⟨Try.runUnderlying139⟩
instance : IsCall Try.prog 3 := ⟨Try.call3⟩
instance : IsCall Try.prog 4 := ⟨Try.call4⟩
instance : IsCall Try.prog 5 := ⟨Try.call5⟩
instance : IsCall Try.prog 6 := ⟨Try.call6⟩
instance : IsCall Try.prog 7 := ⟨Try.call7⟩
instance : IsCall Try.prog 8 := ⟨Try.call8⟩
instance : IsCall Try.prog 9 := ⟨Try.call9⟩
instance : IsCall Try.prog 10 := ⟨Try.call10⟩
instance : IsCall Try.prog 11 := ⟨Try.call11⟩
instance : IsCall Try.prog 12 := ⟨Try.call12⟩
instance : IsCall Try.prog 13 := ⟨Try.call13⟩
instance : IsCall Try.prog 14 := ⟨Try.call14⟩
instance : IsCall Try.prog 15 := ⟨Try.call15⟩
instance : IsCall Try.prog 16 := ⟨Try.call16⟩
instance : IsCall Try.prog 17 := ⟨Try.call17⟩
instance : IsCall Try.prog 18 := ⟨Try.call18⟩
instance : IsCall Try.prog 19 := ⟨Try.call19⟩
instance : IsCall Try.prog 20 := ⟨Try.call20⟩
instance : IsCall Try.prog 21 := ⟨Try.call21⟩
instance : IsCall Try.prog 22 := ⟨Try.call22⟩
instance : IsCall Try.prog 23 := ⟨Try.call23⟩
instance : IsCall Try.prog 24 := ⟨Try.call24⟩
instance : IsCall Try.prog 25 := ⟨Try.call25⟩
instance : IsCall Try.prog 26 := ⟨Try.call26⟩
instance : IsCall Try.prog 27 := ⟨Try.call27⟩
instance : IsCall Try.prog 28 := ⟨Try.call28⟩
instance : IsCall Try.prog 29 := ⟨Try.call29⟩
instance : IsCall Try.prog 30 := ⟨Try.call30⟩
instance : IsCall Try.prog 31 := ⟨Try.call31⟩
instance : IsCall Try.prog 32 := ⟨Try.call32⟩
instance : IsCall Try.prog 33 := ⟨Try.call33⟩
instance : IsCall Try.prog 34 := ⟨Try.call34⟩
instance : IsCall Try.prog 35 := ⟨Try.call35⟩
instance : IsCall Try.prog 36 := ⟨Try.call36⟩
instance : IsCall Try.prog 37 := ⟨Try.call37⟩
instance : IsCall Try.prog 38 := ⟨Try.call38⟩
instance : IsCall Try.prog 39 := ⟨Try.call39⟩
instance : IsCall Try.prog 40 := ⟨Try.call40⟩
instance : IsCall Try.prog 41 := ⟨Try.call41⟩
instance : IsCall Try.prog 42 := ⟨Try.call42⟩
instance : IsCall Try.prog 43 := ⟨Try.call43⟩
instance : IsCall Try.prog 44 := ⟨Try.call44⟩
instance : IsCall Try.prog 45 := ⟨Try.call45⟩
instance : IsCall Try.prog 46 := ⟨Try.call46⟩
instance : IsCall Try.prog 47 := ⟨Try.call47⟩
instance : IsCall Try.prog 48 := ⟨Try.call48⟩
instance : IsCall Try.prog 49 := ⟨Try.call49⟩
instance : IsCall Try.prog 50 := ⟨Try.call50⟩
instance : IsCall Try.prog 51 := ⟨Try.call51⟩
instance : IsCall Try.prog 52 := ⟨Try.call52⟩
instance : IsCall Try.prog 53 := ⟨Try.call53⟩
instance : IsCall Try.prog 54 := ⟨Try.call54⟩
instance : IsCall Try.prog 55 := ⟨Try.call55⟩
instance : IsCall Try.prog 56 := ⟨Try.call56⟩
instance : IsCall Try.prog 57 := ⟨Try.call57⟩
instance : IsCall Try.prog 58 := ⟨Try.call58⟩
instance : IsCall Try.prog 59 := ⟨Try.call59⟩
instance : IsCall Try.prog 60 := ⟨Try.call60⟩
instance : IsCall Try.prog 61 := ⟨Try.call61⟩
instance : IsCall Try.prog 62 := ⟨Try.call62⟩
instance : IsCall Try.prog 63 := ⟨Try.call63⟩
instance : IsCall Try.prog 64 := ⟨Try.call64⟩
instance : IsCall Try.prog 65 := ⟨Try.call65⟩
instance : IsCall Try.prog 66 := ⟨Try.call66⟩
instance : IsCall Try.prog 67 := ⟨Try.call67⟩
instance : IsCall Try.prog 68 := ⟨Try.call68⟩
instance : IsCall Try.prog 69 := ⟨Try.call69⟩
instance : IsCall Try.prog 70 := ⟨Try.call70⟩
instance : IsCall Try.prog 71 := ⟨Try.call71⟩
instance : IsCall Try.prog 72 := ⟨Try.call72⟩
instance : IsCall Try.prog 73 := ⟨Try.call73⟩
instance : IsCall Try.prog 74 := ⟨Try.call74⟩
instance : IsCall Try.prog 75 := ⟨Try.call75⟩
instance : IsCall Try.prog 76 := ⟨Try.call76⟩
instance : IsCall Try.prog 77 := ⟨Try.call77⟩
instance : IsCall Try.prog 78 := ⟨Try.call78⟩
instance : IsCall Try.prog 79 := ⟨Try.call79⟩
instance : IsCall Try.prog 80 := ⟨Try.call80⟩
instance : IsCall Try.prog 81 := ⟨Try.call81⟩
instance : IsCall Try.prog 82 := ⟨Try.call82⟩
instance : IsCall Try.prog 83 := ⟨Try.call83⟩
instance : IsCall Try.prog 84 := ⟨Try.call84⟩
instance : IsCall Try.prog 85 := ⟨Try.call85⟩
instance : IsCall Try.prog 86 := ⟨Try.call86⟩
instance : IsCall Try.prog 87 := ⟨Try.call87⟩
instance : IsCall Try.prog 88 := ⟨Try.call88⟩
instance : IsCall Try.prog 89 := ⟨Try.call89⟩
instance : IsCall Try.prog 90 := ⟨Try.call90⟩
instance : IsCall Try.prog 91 := ⟨Try.call91⟩
instance : IsCall Try.prog 92 := ⟨Try.call92⟩
instance : IsCall Try.prog 93 := ⟨Try.call93⟩
instance : IsCall Try.prog 94 := ⟨Try.call94⟩
instance : IsCall Try.prog 95 := ⟨Try.call95⟩
instance : IsCall Try.prog 96 := ⟨Try.call96⟩
instance : IsCall Try.prog 97 := ⟨Try.call97⟩
instance : IsCall Try.prog 98 := ⟨Try.call98⟩
instance : IsCall Try.prog 99 := ⟨Try.call99⟩
instance : IsCall Try.prog 100 := ⟨Try.call100⟩
instance : IsCall Try.prog 101 := ⟨Try.call101⟩
instance : IsCall Try.prog 102 := ⟨Try.call102⟩
instance : IsCall Try.prog 103 := ⟨Try.call103⟩
instance : IsCall Try.prog 104 := ⟨Try.call104⟩
instance : IsCall Try.prog 105 := ⟨Try.call105⟩
instance : IsCall Try.prog 106 := ⟨Try.call106⟩
instance : IsCall Try.prog 107 := ⟨Try.call107⟩
instance : IsCall Try.prog 108 := ⟨Try.call108⟩
instance : IsCall Try.prog 109 := ⟨Try.call109⟩
instance : IsCall Try.prog 110 := ⟨Try.call110⟩
instance : IsCall Try.prog 111 := ⟨Try.call111⟩
instance : IsCall Try.prog 112 := ⟨Try.call112⟩
end Go.SL
set_option linter.unusedVariables false
set_option linter.unusedSimpArgs false
namespace Go.SL
open Go

section
variable {r : Option Nat} {n : Nat} {P : Program} {ops : Array Oper} {rest : List Oper} {K : St → Prop} {Q : Exit → St → Prop} {D : List Deferred} {E E' : Env} {L L' : List HP} {d : Nat} {ty : TypeId} {pos : String} {af : Array Edge} {s : St}

theorem thenS_normal (h : K s) : thenS K Q .normal s := h
theorem thenS_ret (h : Q .ret s) : thenS K Q .ret s := h
theorem thenS_exit {id : Nat} (h : Q (.exit id) s) : thenS K Q (.exit id) s := h
theorem inB_normal {id : Nat} (h : Q .normal s) : inB id Q .normal s := h
theorem inB_ret {id : Nat} (h : Q .ret s) : inB id Q .ret s := h
theorem inB_hit {id : Nat} (h : Q .normal s) : inB id Q (.exit id) s := by simpa [inB] using h
theorem sub_nil : ∀ i v, look [] i = some v → look E i = some v := fun _ _ h => by cases h
theorem sub_cons {j : Nat} {u : Value} (h : look E j = some u) (hs : ∀ i v, look E' i = some v → look E i = some v) : ∀ i v, look ((j, u) :: E') i = some v → look E i = some v := fun i v hv => by
  simp only [look] at hv
  cases e : Nat.beq j i with
  | true =>
    rw [e] at hv
    simp only [cond_true, Option.some.injEq] at hv
    have : j = i := Nat.eq_of_beq_eq_true e
    subst this; subst hv
    exact h
  | false => rw [e] at hv; exact hs i v hv
theorem holds_to (hE : ∀ i v, look E' i = some v → look E i = some v) (hg : Gives L L') : ∀ W a w, Holds n W ⟨D, E, L⟩ a w → Holds n W ⟨D, E', L'⟩ a w := fun W a w hh => ⟨hh.1.less hE, hh.2.gives hg⟩
/-- p is found among L; R: all else. -/
class FindHP (L : List HP) (p : HP) (R : outParam (List HP)) : Prop where
  g : Gives L (p :: R)
instance findHP_tail {p q : HP} {L R : List HP} [h : FindHP L p R] : FindHP (q :: L) p (q :: R) := ⟨(Gives.cons q h.g).trans (Gives.swap q p R)⟩
instance findHP_head {p : HP} {L : List HP} : FindHP (p :: L) p L := ⟨Gives.refl _⟩
class GivesTo (L L' : List HP) : Prop where
  g : Gives L L'
instance (priority := 10) givesTo_drop {p : HP} {L L' : List HP} [k : GivesTo L L'] : GivesTo (p :: L) L' := ⟨fun M m ⟨h1, h2, hd, l1, l2, hp, hs⟩ => k.g M m (Sep.mono (Mem.le_refl _) l2 hs)⟩
instance givesTo_cons {p : HP} {L L1 L' : List HP} [h : FindHP L p L1] [k : GivesTo L1 L'] : GivesTo L (p :: L') := ⟨h.g.trans (Gives.cons p k.g)⟩
instance givesTo_nil {L : List HP} : GivesTo L [] := ⟨Gives.nil L⟩
instance givesTo_refl {L : List HP} : GivesTo L L := ⟨Gives.refl L⟩
theorem TL_cut {σ : Type} (I : σ → Prop) (S : σ → St) {l1 l2 : List Oper} (h1 : TL r n P ops l1 s (fun s' => ∃ y, I y ∧ ∀ W a w, Holds n W s' a w → Holds n W (S y) a w)) (h2 : ∀ y, I y → TL r n P ops l2 (S y) K) : TL r n P ops (l1 ++ l2) s K := fun W a w hh => by
  have key : ∀ (l1 : List Oper) (a : Act) (w : World), wpListIn (Fw r) 0 P ops (fun e a' w' => e = .normal ∧ ∃ s', (∃ y, I y ∧ ∀ W a w, Holds n W s' a w → Holds n W (S y) a w) ∧ Holds n W s' a' w') l1 a w →
      wpListIn (Fw r) 0 P ops (fun e a' w' => e = .normal ∧ ∃ s', K s' ∧ Holds n W s' a' w') (l1 ++ l2) a w := by
    intro l1
    induction l1 with
    | nil =>
      rintro a w ⟨_, s', ⟨y, hy, hS⟩, hh⟩
      exact h2 y hy W a w (hS W a w hh)
    | cons o l1 ih =>
      intro a w h
      simp only [wpListIn, List.cons_append] at h ⊢
      split
      · rename_i hw
        rw [if_pos hw] at h
        exact ⟨h.1, uponIn_mono ih (fun c a w h => by cases h.1) (fun ⟨_, _, h⟩ => by cases h.1) _ h.2⟩
      · rename_i hw
        rw [if_neg hw] at h
        exact ⟨h.1, ih _ _ h.2⟩
  exact key l1 a w (h1 W a w hh)
/-- A term of the call's result is given a name. -/
theorem Fn.cases_ {f : FuncId} {args : Array Value} {Φ Ψ : Value → List HP → Prop} (h : Fn P f args L Φ) (k : ∀ v L', Φ v L' → Ψ v L') : Fn P f args L Ψ := fun W w hh =>
  (h W w hh).mono fun e w' ⟨v, L1, he, hΦ, hs⟩ => ⟨v, L1, he, k v L1 hΦ, hs⟩

/-! ### More operations that compute -/
section
variable {x y : Operand} {t t' : TypeId} {a b : ByteArray}
theorem toList_eq {a b : ByteArray} : (a.toList == b.toList) = decide (a = b) := by
  rw [Lib.toList_data, Lib.toList_data]
  by_cases h : a = b
  · subst h; simp
  · have : a.data.toList ≠ b.data.toList := fun e => h (by
      cases a; cases b
      congr 1
      exact Array.ext' e)
    rw [decide_eq_false h]; exact beq_false_of_ne this
theorem beq_dec {p q : ByteArray} : (p == q) = decide (p = q) := by
  have e : (p == q) = (p.data == q.data) := rfl
  rw [e]
  by_cases h : p = q
  · subst h; simp
  · rw [decide_eq_false h]; exact beq_eq_false_iff_ne.2 fun e => h (by cases p; cases q; exact congrArg _ e)
/-- Two values of type t: whether they are equal. -/
def EqIs (P : Program) (t : TypeId) (u v : Value) (b : Bool) : Prop := ∀ d w, (Op.equalIn (d + 1) t u v).run P w = .ok b w
/-- Two values that the program compares by their type. -/
class EqBy (u v : Value) : Prop where
  e : ∀ t, binOp .eql t u v = (do Pure.pure (Value.bool (← Op.equal t u v)) : Sem Value)
  n : ∀ t, binOp .neq t u v = (do Pure.pure (Value.bool (!(← Op.equal t u v))) : Sem Value)
  g : ∀ op t x y, eqGuard op t x y u v = Pure.pure ()
instance {p q : Bool} : EqBy (.bool p) (.bool q) := ⟨fun t => by simp only [binOp], fun t => by simp only [binOp], fun op t x y => by cases op <;> rfl⟩
instance {p q : Option Addr} {k c k' c' : Nat} : EqBy (.slice p k c) (.slice q k' c') := ⟨fun t => by simp only [binOp], fun t => by simp only [binOp], fun op t x y => by cases op <;> rfl⟩
instance {p q : Option Addr} : EqBy (.pointer p) (.pointer q) := ⟨fun t => by simp only [binOp], fun t => by simp only [binOp], fun op t x y => by cases op <;> rfl⟩
instance {p q : Option _} : EqBy (.map p) (.map q) := ⟨fun t => by simp only [binOp], fun t => by simp only [binOp], fun op t x y => by cases op <;> rfl⟩
section
variable {x y : Operand} {t t' : TypeId} {u v : Value} {b : Bool}
theorem EqIs.equal (h : EqIs P t u v b) (w : World) : (Op.equal t u v).run P w = .ok b w := h 9999 w
theorem Y_equal [hb : EqBy u v] (hx : ev E x = some u) (hy : ev E y = some v) (h : EqIs P t u v b) : Yl P E L (.binOp .eql t x y t') ty (.bool b) := fun n D W ac w dst pos af g ha hs => by
  simp [execOp, ha.ev hx, ha.ev hy, hb.g, hb.e, h.equal]
theorem EqIs.bool [ht : TyDesc P t .bool] {p q : Bool} : EqIs P t (.bool p) (.bool q) (p == q) := fun d w => by simp [Op.equalIn, ht.run]
theorem EqIs.str [ht : TyDesc P t .string] {p q : ByteArray} : EqIs P t (.string p) (.string q) (decide (p = q)) := fun d w => by simp [Op.equalIn, ht.run]; exact beq_dec
theorem EqIs.int {k : IntKind} [ht : TyDesc P t (.int k)] {p q : Int} : EqIs P t (.int k p) (.int k q) (decide (p = q)) := fun d w => by
  simp [Op.equalIn, ht.run]; rfl
theorem EqIs.slice_nil {e : TypeId} [ht : TyDesc P t (.slice e)] {A : Option Addr} {k c k' c' : Nat} : EqIs P t (.slice A k c) (.slice none k' c') (decide (A = none)) := fun d w => by
  cases A <;> simp [Op.equalIn, ht.run]
end
theorem Y_str_eq (hx : ev E x = some (.string a)) (hy : ev E y = some (.string b)) : Yl P E L (.binOp .eql t x y t') ty (.bool (decide (a = b))) := fun n D W ac w dst pos af g ha hs => by
  simp only [execOp, ha.ev hx, ha.ev hy, eqGuard, Go.binOp, Op.stringOp, toList_eq]; rfl
end
end
end Go.SL
set_option linter.unusedVariables false
set_option linter.unusedSimpArgs false
namespace Go.SL
open Go

/-- The values of these slots. -/
def keepO : List Nat → Env → Option Env
  | [], _ => some []
  | k :: ks, E => match look E k with
    | some v => match keepO ks E with
      | some r => some ((k, v) :: r)
      | none => none
    | none => none

section
variable {r : Option Nat} {n : Nat} {P : Program} {ops : Array Oper} {rest : List Oper} {K : St → Prop} {Q : Exit → St → Prop} {D : List Deferred} {E E' kv : Env} {L L' : List HP} {d : Nat} {ty : TypeId} {pos : String} {af : Array Edge} {s : St}

theorem TL_mono {l : List Oper} {K K' : St → Prop} {s : St} (h : TL r n P ops l s K) (hk : ∀ s, K s → K' s) : TL r n P ops l s K' := fun W a w hh =>
  wpListIn_mono (fun e a' w' ⟨he, s', q, k⟩ => ⟨he, s', hk _ q, k⟩) l a w (h W a w hh)
theorem T_loopK {c : Code} {σ : Type} (ks : List Nat) (I : σ → Prop) (U : σ → Env → Env) (M : σ → List HP) (μ : σ → Nat) (x0 : σ) (hk : keepO ks E = some kv) (h0 : I x0) (hg : Gives L (M x0)) (h1 : ∀ i v, look (U x0 kv) i = some v → look E i = some v)
    (round : ∀ x, I x → T r n P c ⟨D, U x kv, M x⟩ (thenS (fun s' => ∃ y, I y ∧ μ y < μ x ∧ ∀ W a w, Holds n W s' a w → Holds n W ⟨D, U y kv, M y⟩ a w) Q)) : T r n P (.loop c) ⟨D, E, L⟩ Q :=
  T_loop I (fun x => ⟨D, U x kv, M x⟩) μ x0 h0 (holds_to h1 hg) round
def takeO {α : Type} : Nat → List α → List α
  | k + 1, x :: l => x :: takeO k l
  | _, _ => []
def dropO {α : Type} : Nat → List α → List α
  | k + 1, _ :: l => dropO k l
  | _, l => l
theorem takeO_dropO {α : Type} : ∀ (k : Nat) (l : List α), takeO k l ++ dropO k l = l
  | 0, l => rfl
  | k + 1, [] => rfl
  | k + 1, x :: l => by simp [takeO, dropO, takeO_dropO k l]
/-- A truth that later operations yield only on one way: p, on all ways. -/
theorem TL_both {l : List Oper} (k g : Nat) (p : Prop) [Decidable p] (h1 : TL r n P ops (takeO k l) ⟨D, E, L⟩ (fun s' => ∀ W a w, Holds n W s' a w → Holds n W ⟨D, (g, .bool (decide p)) :: E, L⟩ a w)) (h2 : TL r n P ops (dropO k l) ⟨D, (g, .bool (decide p)) :: E, L⟩ K) : TL r n P ops l ⟨D, E, L⟩ K := by
  rw [← takeO_dropO k l]
  exact TL_cut (σ := Unit) (fun _ => True) (fun _ => ⟨D, (g, .bool (decide p)) :: E, L⟩) (TL_mono h1 fun s h => ⟨(), trivial, h⟩) (fun _ _ => h2)

theorem TL_pullc (b : Nat) {l : List Value} {t : TypeId} {L1 : List HP} [hf : FindC L b l t L1] (h : TL r n P ops rest ⟨D, E, cells b l t :: L1⟩ K) : TL r n P ops rest ⟨D, E, L⟩ K := TL_gives hf.g h
/-! ### Returns that let go of what nobody wants -/
section
variable {fn : Func} {Φ : Value → List HP → Prop} {x y z : ResultVar} {u v t : Value} {e : Exit}
theorem RetG_0 (he : e = .ret ∨ e = .normal) (hr : fn.results = #[]) (g : Gives L L') (h : Φ (.tuple #[]) L') : RetQ P fn Φ e ⟨[], E, L⟩ := RetQ.gives g (Ret_0 he hr h)
theorem RetQ.imp {Ψ : Value → List HP → Prop} {L L' : List HP} (g : Gives L L') (hm : ∀ v, Ψ v L → Φ v L') (h : RetQ P fn (fun v L1 => Ψ v L ∧ L1 = L) e ⟨[], E, L⟩) : RetQ P fn Φ e ⟨[], E, L⟩ := by
  cases e <;> simp only [RetQ] at h ⊢
  case ret => exact ⟨h.1, let ⟨v, L1, a, b⟩ := h.2; ⟨v, L', hm v a.1, fun n W c w hh => let k := b n W c w hh; ⟨by rw [a.2] at k; exact k.1.gives g, k.2⟩⟩⟩
  case normal => exact ⟨h.1, let ⟨v, L1, a, b⟩ := h.2; ⟨v, L', hm v a.1, fun n W c w hh => let k := b n W c w hh; ⟨by rw [a.2] at k; exact k.1.gives g, k.2⟩⟩⟩
theorem RetG_1 (he : e = .ret ∨ e = .normal) (hr : fn.results = #[x]) (hx : ResV P E L x v) (g : Gives L L') (h : Φ v L') : RetQ P fn Φ e ⟨[], E, L⟩ :=
  RetQ.imp (Ψ := fun u _ => u = v) g (fun u e => e ▸ h) (Ret_1 he hr hx ⟨rfl, rfl⟩)
end

/-! ### An element's address -/
variable {α : Type} {R : Rep α} {A : Option Addr} {c : Nat} {xs : List α}
def AtA (A : Option Addr) (k b o : Nat) : Prop := ∃ o', A = some ⟨b, o', none⟩ ∧ o = o' + k
theorem Y_index_at {x i : Operand} {t e : TypeId} {k m b o j : Nat} {ik : IntKind} [ht : TyDesc P t (.slice e)] [hz : TySize P e m] (hx : ev E x = some (.slice A k c)) (hi : ev E i = some (.int ik (j : Int))) (hb : j < k) (ha : AtA A (j * m) b o) :
    Yl P E L (.indexAddr t x i) ty (.pointer (some ⟨b, o + 0, none⟩)) := by
  obtain ⟨o', rfl, rfl⟩ := ha
  have := Y_index_addr (P := P) (L := L) (ty := ty) (t := t) (e := e) (m := m) hx hi ⟨by omega, by omega⟩
  simpa using this
theorem at_gives (hk : SlK L R A c xs) {i : Nat} {x : α} (hx : xs[i]? = some x) : ∀ W w, Sat W w L → ∃ b o l, AtA A (i * R.sz) b o ∧ Sat W w (row b o l :: is R x l :: L) := fun W w hs => by
  obtain ⟨M, hM, h1, h2, h3⟩ := hs.knows hk
  rcases h3 with e | ⟨b, o, e, hall⟩
  · rw [e] at hx; simp at hx
  · subst e
    obtain ⟨l, hl⟩ := elem_gives hk (i := (i : Int)) (by simpa using hx) W w hs
    exact ⟨b, o + i * R.sz, l, ⟨o, rfl, rfl⟩, by simpa using hl⟩
theorem T_at {c' : Code} (hk : SlK L R A c xs) {i : Nat} {x : α} (hx : xs[i]? = some x) (h : ∀ b o l, AtA A (i * R.sz) b o → T r n P c' ⟨D, E, row b o l :: is R x l :: L⟩ Q) : T r n P c' ⟨D, E, L⟩ Q := fun W a w hh => by
  obtain ⟨b, o, l, ha, hl⟩ := at_gives hk hx W w hh.2
  exact h b o l ha W a w ⟨hh.1, hl⟩
theorem SlK.cap (h : SlK L R A c xs) : SlK L R A xs.length xs := h.mono fun M h => ⟨Nat.le_refl _, h.2.1, h.2.2⟩
theorem SlK.take (h : SlK L R A c xs) (j : Nat) : SlK L R A c (xs.take j) := h.mono fun M h => by
  refine ⟨by have := h.1; rw [List.length_take]; omega, by have := h.2.1; rw [List.length_take]; omega, ?_⟩
  rcases h.2.2 with e | ⟨b, o, e, cs, t, fr, hb, hall⟩
  · left; simp [e]
  · right
    refine ⟨b, o, e, cs, t, fr, hb, fun i x hi => hall i x ?_⟩
    rw [List.getElem?_take] at hi
    split at hi
    · exact hi
    · cases hi
theorem SlK.drop (h : SlK L R A c xs) {i : Nat} (hi : i ≤ xs.length) : SlK L R (cutA A i c R.sz) (c - i) (xs.drop i) := h.mono fun M h => by
  have := h.cut i xs.length c hi (Nat.le_refl _) h.1
  rwa [List.take_length] at this
theorem SlK.lens {R : Rep α} (h : SlK L R A c xs) {c' : Code} (k : xs.length ≤ c ∧ xs.length ≤ maxEl → T r n P c' ⟨D, E, L⟩ Q) : T r n P c' ⟨D, E, L⟩ Q := T_fact h.len (fun _ h => h) k
theorem SlK.lensL {R : Rep α} (h : SlK L R A c xs) (k : xs.length ≤ c ∧ xs.length ≤ maxEl → TL r n P ops rest ⟨D, E, L⟩ K) : TL r n P ops rest ⟨D, E, L⟩ K := TL_fact h.len (fun _ h => h) k
theorem SlK.none_nil (h : SlK L R none c xs) : Knows L (fun _ => xs = []) := h.mono fun M h => by
  rcases h.2.2 with e | ⟨b, o, e, _⟩
  · exact e
  · cases e

/-! ### A row of ours as a slice -/
theorem cells_osl {b k : Nat} {cs : List Value} {e : TypeId} (hc : Knows L (fun M => CellsOf M R xs cs)) (hk : xs.length = k) (hm : k ≤ 16777216) : Gives (cells b cs e :: L) (osl R e (some ⟨b, 0, none⟩) k xs :: L) := fun M m ⟨h1, h2, hd, l1, l2, hp, hs⟩ => by
  have hcs := hc M h2 hs
  refine ⟨h1, h2, hd, l1, l2, ⟨by simp only [maxEl]; omega, .inr ⟨b, cs.toArray, rfl, hp, by simp [hcs.length, hk], by omega, by omega, fun i x hi => ?_⟩⟩, hs⟩
  obtain ⟨l, a, b⟩ := hcs.at_ i x hi
  exact ⟨l, a, fun j v hj => by simpa using b j v hj⟩
theorem TL_osl {b k : Nat} {cs : List Value} {e : TypeId} (R : Rep α) (xs : List α) (hc : Knows L (fun M => CellsOf M R xs cs)) (hk : xs.length = k) (hm : k ≤ 16777216) (h : TL r n P ops rest ⟨D, E, osl R e (some ⟨b, 0, none⟩) k xs :: L⟩ K) : TL r n P ops rest ⟨D, E, cells b cs e :: L⟩ K := TL_gives (cells_osl hc hk hm) h
theorem cells_ints {k : IntKind} : ∀ {xs : List Int}, (∀ x ∈ xs, intIn k x) → ∀ M, CellsOf M (intR k) xs (xs.map fun x => .int k x)
  | [], _, M => rfl
  | x :: xs, h, M => ⟨[.int k x], _, ⟨rfl, h x (by simp)⟩, cells_ints (fun y hy => h y (by simp [hy])) M, by simp⟩
end
end Go.SL
set_option linter.unusedVariables false
set_option linter.unusedSimpArgs false
namespace Go.SL
open Go Go.Proofs

instance (k : IntKind) (x : Int) : Decidable (intIn k x) := by unfold intIn; exact inferInstance
/-! ### Plain -/
/-- A number's bytes. -/
def grp (x : Nat) : List Int := if x < 128 then [(x : Int)] else ((x % 128 : Nat) + 128 : Int) :: grp (x / 128)
  termination_by x
  decreasing_by omega
theorem grp_small {x : Nat} (h : x < 128) : grp x = [(x : Int)] := by rw [grp, if_pos h]
theorem grp_big {x : Nat} (h : ¬ x < 128) : grp x = ((x % 128 : Nat) + 128 : Int) :: grp (x / 128) := by rw [grp, if_neg h]
theorem grp_pos (x : Nat) : 0 < (grp x).length := by
  rw [grp]; split <;> simp
theorem grp_len : ∀ (k x : Nat), x < 128 ^ (k + 1) → (grp x).length ≤ k + 1
  | 0, x, h => by rw [grp_small (by simpa using h)]; simp
  | k + 1, x, h => by
    by_cases hx : x < 128
    · rw [grp_small hx]; simp
    · rw [grp_big hx]
      have := grp_len k (x / 128) (by rw [Nat.pow_succ] at h; omega)
      simp; omega
theorem grp_ten {x : Nat} (h : x < 18446744073709551616) : (grp x).length ≤ 10 := grp_len 9 x (Nat.lt_of_lt_of_le h (by decide))
/-- What a byte list in the making looks like. -/
structure GrpSt where
  y : Nat
  out : List Int
  A : Option Addr
  c : Nat
def GrpI (x : Nat) (g : GrpSt) : Prop := g.y < 18446744073709551616 ∧ g.out ++ grp g.y = grp x ∧ x < 18446744073709551616
theorem GrpI.len {x : Nat} {g : GrpSt} (h : GrpI x g) : g.out.length < 10 := by
  have := congrArg List.length h.2.1
  have h1 := grp_ten h.2.2
  have := grp_pos g.y
  simp at *
  omega
theorem GrpI.next {x : Nat} {g : GrpSt} (h : GrpI x g) (hy : ¬ g.y < 128) (A : Option Addr) (c : Nat) : GrpI x ⟨g.y / 128, g.out ++ [((g.y % 128 : Nat) : Int) + 128], A, c⟩ := by
  refine ⟨by have := h.1; simp only; omega, ?_, h.2.2⟩
  rw [← h.2.1, grp_big hy]
  simp
/-! ### group -/
end Go.SL
set_option linter.unusedVariables false
set_option linter.unusedSimpArgs false
namespace Go.SL
open Go Go.Proofs
end Go.SL
set_option linter.unusedVariables false
set_option linter.unusedSimpArgs false
namespace Go.SL
open Go Go.Proofs

def val : List Int → Nat
  | [] => 0
  | d :: ds => d.toNat % 128 + 128 * val ds
def High (ds : List Int) : Prop := ∀ d ∈ ds, 128 ≤ d ∧ d ≤ 255
/-- What reading a number from bytes comes to. -/
def RdU (bs : List Int) (x n e : Nat) : Prop :=
  (e = 0 ∧ x < 18446744073709551616 ∧ bs.take n = grp x ∧ n = (grp x).length ∧ n ≤ bs.length) ∨ (e = 10 ∧ x = 0 ∧ n = 0 ∧ ∀ y, y < 18446744073709551616 → ¬ grp y <+: bs)
/-! ### Bits -/
end Go.SL
set_option linter.unusedVariables false
set_option linter.unusedSimpArgs false
namespace Go.SL
open Go Go.Proofs

end Go.SL
set_option linter.unusedVariables false
set_option linter.unusedSimpArgs false
namespace Go.SL
open Go Go.Proofs

/-- The bytes of a text. -/
def txt (s : ByteArray) : List Int := grp s.size ++ strBytes s

/-- May it be a name? -/
def nameByte (c : Int) : Prop := (97 ≤ c ∧ c ≤ 122) ∨ (48 ≤ c ∧ c ≤ 57) ∨ c = 45
instance (c : Int) : Decidable (nameByte c) := by unfold nameByte; exact inferInstance
def isName (s : ByteArray) : Prop := (∀ c ∈ strBytes s, nameByte c) ∧ s.size ≠ 0 ∧ s.size ≤ 32
instance (s : ByteArray) : Decidable (isName s) := by unfold isName; exact inferInstance
/-- What reading a text from bytes comes to. -/
def RdT (bs : List Int) (most : Int) (s : ByteArray) (n e : Nat) : Prop :=
  (e = 0 ∧ (s.size : Int) ≤ most ∧ bs.take n = txt s ∧ n = (txt s).length ∧ n ≤ bs.length) ∨ (e = 10 ∧ s = ⟨#[]⟩ ∧ n = 0 ∧ ∀ s' : ByteArray, (s'.size : Int) ≤ most → ¬ txt s' <+: bs)
end Go.SL
set_option linter.unusedVariables false
set_option linter.unusedSimpArgs false
namespace Go.SL
open Go
section
variable {r : Option Nat} {n : Nat} {P : Program} {ops : Array Oper} {rest : List Oper} {K : St → Prop} {Q : Exit → St → Prop} {D : List Deferred} {E : Env} {L L' : List HP} {d : Nat} {ty : TypeId} {pos : String} {af : Array Edge}
end
end Go.SL
set_option linter.unusedVariables false
set_option linter.unusedSimpArgs false
namespace Go.SL
open Go
theorem sep_app {M : Mem} {B : List HP} : ∀ {A : List HP} {h : Mem}, Sep A M Mem.emp → Sep B M h → Sep (A ++ B) M h
  | [], h, _, hb => hb
  | p :: A, h, ⟨h1, h2, _, l1, l2, hp, hs⟩, hb => ⟨Mem.emp, h, Mem.emp_disj _, Mem.emp_le _, Mem.le_refl _, p.mono (Mem.le_refl _) l1 hp, sep_app (Sep.mono (Mem.le_refl _) l2 hs) hb⟩
/-- Data whose cells tell where the rest lies: f, with the assertions g. -/
def exR {α β : Type} (sz : Nat) (f : α → β → List Value) (g : α → β → List HP) (ok : α → Prop) (hlen : ∀ x p, (f x p).length = sz) (hone : ∀ x p, oneN (f x p) = true) : Rep α :=
  ⟨sz, fun M x cs => ∃ p, cs = f x p ∧ Sep (g x p) M Mem.emp ∧ ok x, fun hM ⟨p, e, hs, h⟩ => ⟨p, e, Sep.mono hM (Mem.le_refl _) hs, h⟩, fun ⟨p, e, _, _⟩ => by rw [e]; exact hlen _ _, fun ⟨p, e, _, _⟩ v hv => by rw [e] at hv; exact oneN_mem (hone _ _) v hv⟩
section
variable {r : Option Nat} {n : Nat} {P : Program} {ops : Array Oper} {rest : List Oper} {K : St → Prop} {Q : Exit → St → Prop} {D : List Deferred} {E : Env} {L L' : List HP}
variable {α β : Type} {sz : Nat} {f : α → β → List Value} {g : α → β → List HP} {ok : α → Prop} {hlen : ∀ x p, (f x p).length = sz} {hone : ∀ x p, oneN (f x p) = true}
theorem ex_gives {u : α} {l : List Value} {b o : Nat} {W w : World} (h : Sat W w (row b o l :: is (exR sz f g ok hlen hone) u l :: L)) : ∃ p, l = f u p ∧ ok u ∧ Sat W w (row b o (f u p) :: (g u p ++ L)) := by
  obtain ⟨M, k, hd, hM, hk, h1, h2, hd1, l1, l2, hr, h3, h4, hd2, l3, l4, ⟨p, e, hs, hok⟩, hL⟩ := h.ex
  subst e
  exact ⟨p, rfl, hok, ⟨M, k, hd, hM, hk, h1, h2, hd1, l1, l2, hr, sep_app hs (Sep.mono (Mem.le_refl _) l4 hL)⟩, h.os, h.tape, h.output, h.size⟩
theorem T_ex {u : α} {l : List Value} {b o : Nat} {c : Code} (h : ∀ p, ok u → T r n P c ⟨D, E, row b o (f u p) :: (g u p ++ L)⟩ Q) : T r n P c ⟨D, E, row b o l :: is (exR sz f g ok hlen hone) u l :: L⟩ Q := fun W a w hh => by
  obtain ⟨p, _, hok, hs⟩ := ex_gives hh.2
  exact h p hok W a w ⟨hh.1, hs⟩
/-- Such an element's cells, made. -/
theorem ex_rep {u : α} (p : β) (hk : Knows L (fun M => Sep (g u p) M Mem.emp)) (hok : ok u) : Knows L (fun M => (exR sz f g ok hlen hone).rep M u (f u p)) := hk.mono fun M h => ⟨p, rfl, h, hok⟩
theorem sep_sl {γ : Type} {R : Rep γ} {A : Option Addr} {c : Nat} {xs : List γ} (hk : SlK L R A c xs) : Knows L (fun M => Sep [sl R A c xs] M Mem.emp) := hk.mono fun M h => ⟨Mem.emp, Mem.emp, Mem.emp_disj _, Mem.le_refl _, Mem.le_refl _, h, trivial⟩
end
end Go.SL
set_option linter.unusedVariables false
set_option linter.unusedSimpArgs false
namespace Go.SL
open Go Go.Proofs
structure OrderD where
  token : ByteArray
  cart : ByteArray
  epoch : Int
  cut : List Int
structure EntryD where
  noop : Bool
  order : OrderD
structure VotedD where
  slot : Int
  bal : Int × Int
  en : EntryD
abbrev orderC (s : OrderD) (p : Option Addr × Nat) : List Value := [.string s.token, .string s.cart, .int .i64 s.epoch, .slice p.1 s.cut.length p.2]
abbrev entryC (e : EntryD) (p : Option Addr × Nat) : List Value := [.bool e.noop, .string e.order.token, .string e.order.cart, .int .i64 e.order.epoch, .slice p.1 e.order.cut.length p.2]
abbrev votedC (v : VotedD) (p : Option Addr × Nat) : List Value := [.int .i64 v.slot, .int .i64 v.bal.1, .int .i64 v.bal.2, .bool v.en.noop, .string v.en.order.token, .string v.en.order.cart, .int .i64 v.en.order.epoch, .slice p.1 v.en.order.cut.length p.2]
def orderOk' (s : OrderD) : Prop := s.token.size ≤ maxEl ∧ s.cart.size ≤ maxEl ∧ intIn .i64 s.epoch ∧ s.cut.length ≤ 17592186043904
def votedOk (v : VotedD) : Prop := intIn .i64 v.slot ∧ intIn .i64 v.bal.1 ∧ intIn .i64 v.bal.2 ∧ orderOk' v.en.order
def orderR : Rep OrderD := exR 4 orderC (fun s p => [sl (intR .i64) p.1 p.2 s.cut]) orderOk' (fun _ _ => rfl) (fun _ _ => rfl)
def entryR : Rep EntryD := exR 5 entryC (fun e p => [sl (intR .i64) p.1 p.2 e.order.cut]) (fun e => orderOk' e.order) (fun _ _ => rfl) (fun _ _ => rfl)
def votedR : Rep VotedD := exR 8 votedC (fun v p => [sl (intR .i64) p.1 p.2 v.en.order.cut]) votedOk (fun _ _ => rfl) (fun _ _ => rfl)
def emptyS : ByteArray := ⟨#[]⟩
def voted0 (noop : Bool) : VotedD := ⟨0, (0, 0), ⟨noop, ⟨⟨#[]⟩, ⟨#[]⟩, 0, []⟩⟩⟩

end Go.SL
set_option linter.unusedVariables false
set_option linter.unusedSimpArgs false
namespace Go.SL
open Go
/-- In all states of L the cells from place o of block b on are l. -/
def AtL (L : List HP) (b o : Nat) (l : List Value) : Prop := ∀ W w, Sat W w L → ∀ j v, l[j]? = some v → w.cell? ⟨b, o + j, none⟩ = some v
/-- Whose cells are known by what they say. -/
class RepF {α : Type} (R : Rep α) (f : outParam (α → List Value)) : Prop where
  e : ∀ M x cs, R.rep M x cs → cs = f x
instance {k : IntKind} : RepF (intR k) (fun x => [.int k x]) := ⟨fun _ _ _ h => h.1⟩
instance : RepF boolR (fun x => [.bool x]) := ⟨fun _ _ _ h => h⟩
instance : RepF strR (fun x => [.string x]) := ⟨fun _ _ _ h => h.1⟩
section
variable {r : Option Nat} {n : Nat} {P : Program} {ops : Array Oper} {rest : List Oper} {K : St → Prop} {Q : Exit → St → Prop} {D : List Deferred} {E : Env} {L L' : List HP} {d : Nat} {ty : TypeId} {pos : String} {af : Array Edge}
theorem AtL.gives {b o : Nat} {l : List Value} (g : Gives L L') (h : AtL L' b o l) : AtL L b o l := fun W w hs => h W w (hs.gives g)
theorem Y_load_at_agg {x : Operand} {t : TypeId} {b o j m : Nat} {l vs : List Value} [ht : TyAgg P t true] [hz : TySize P t m] (hx : ev E x = some (.pointer (some ⟨b, o + j, none⟩))) (ha : AtL L b o l) (hv : cutN j m l = some vs) : Yl P E L (.load t x) ty (.agg vs.toArray) := fun n D W a w dst pos af g hv' hs => by
  obtain ⟨e, hl⟩ := cutN_eq hv
  have hrun := run_loadVar_agg (P := P) (t := t) (w := w) (b := b) (o := o + j) (vs := vs) (k := m) (hk := by rw [e]; simp; omega) (fun q v hq => by
    rw [e, List.getElem?_take] at hq
    split at hq
    · rw [List.getElem?_drop] at hq
      have := ha W w hs _ _ hq
      rwa [Nat.add_assoc]
    · cases hq)
  simp only [execOp, hv'.ev hx, Instr.loadAt, Instr.sureAddr, Sem.run_bind, Sem.run_pure, Result.andThen_ok, hrun]
variable {α : Type} {R : Rep α} {A : Option Addr} {c : Nat} {xs : List α}
theorem osl_at {t : TypeId} {f : α → List Value} [hf : RepF R f] {i : Nat} {x : α} (hx : xs[i]? = some x) (L : List HP) : AtL (osl R t A c xs :: L) (match A with | some a => a.block | none => 0) (i * R.sz) (f x) := fun W w hs j v hj => by
  obtain ⟨M, k, hd, hM, hk, h1, h2, hd', l1, l2, hp, hsep⟩ := hs.ex
  rcases hp.2 with ⟨_, rfl⟩ | ⟨g, cur, rfl, hg, _, _, _, hall⟩
  · simp at hx
  · obtain ⟨l, hl, hc⟩ := hall i x hx
    rw [hf.e _ _ _ hl] at hc
    rw [cell_of (hk _ _ (l1 _ _ hg))]
    exact hc j v hj
theorem osl_addr {t : TypeId} {i : Nat} {x : α} (hx : xs[i]? = some x) {W w : World} (hs : Sat W w (osl R t A c xs :: L)) : ∃ g, A = some ⟨g, 0, none⟩ := by
  obtain ⟨M, k, hd, hM, hk, h1, h2, hd', l1, l2, hp, hsep⟩ := hs.ex
  rcases hp.2 with ⟨_, rfl⟩ | ⟨g, cur, rfl, _⟩
  · simp at hx
  · exact ⟨g, rfl⟩
theorem T_oaddr (A : Option Addr) (c : Nat) {te : TypeId} {L0 : List HP} {c' : Code} [ho : FindO L A c α R te xs L0] {i : Nat} {x : α} (hx : xs[i]? = some x) (h : ∀ g, A = some ⟨g, 0, none⟩ → T r n P c' ⟨D, E, L⟩ Q) : T r n P c' ⟨D, E, L⟩ Q := fun W a w hh => by
  obtain ⟨g, hA⟩ := osl_addr hx (hh.2.gives ho.g)
  exact h g hA W a w hh
/-! ### One element laid open -/
def oslxAt (M h : Mem) (R : Rep α) (t : TypeId) (g c : Nat) (xs : List α) (i : Nat) (l : List Value) : Prop :=
  ∃ cur, h g = some (.cells cur t (0, 0)) ∧ cur.size = c * R.sz ∧ xs.length ≤ c ∧ c ≤ 9223372036854775807 ∧ xs.length ≤ maxEl ∧ i < xs.length ∧ l.length = R.sz ∧
    (∀ k x, k ≠ i → xs[k]? = some x → ∃ l, R.rep M x l ∧ ∀ j v, l[j]? = some v → cur[k * R.sz + j]? = some v) ∧ (∀ j v, l[j]? = some v → cur[i * R.sz + j]? = some v)
def oslx (R : Rep α) (t : TypeId) (g c : Nat) (xs : List α) (i : Nat) (l : List Value) : HP :=
  ⟨fun M h => oslxAt M h R t g c xs i l, fun hM hh ⟨cur, a1, a2, a3, a4, a5, a6, a7, a8, a9⟩ => ⟨cur, hh _ _ a1, a2, a3, a4, a5, a6, a7, fun k x hk hx => let ⟨l, hl, hc⟩ := a8 k x hk hx; ⟨l, R.mono hM hl, hc⟩, a9⟩⟩
class FindX (L : List HP) (g : Nat) (α : outParam Type) (R : outParam (Rep α)) (t : outParam TypeId) (c : outParam Nat) (xs : outParam (List α)) (i : outParam Nat) (l : outParam (List Value)) (L' : outParam (List HP)) : Prop where
  g : Gives L (oslx R t g c xs i l :: L')
instance findX_tail {p : HP} {L L' : List HP} {g : Nat} {α : Type} {R : Rep α} {t : TypeId} {c : Nat} {xs : List α} {i : Nat} {l : List Value} [h : FindX L g α R t c xs i l L'] : FindX (p :: L) g α R t c xs i l (p :: L') := ⟨(Gives.cons p h.g).trans (Gives.swap p _ _)⟩
instance findX_head {L : List HP} {g : Nat} {α : Type} {R : Rep α} {t : TypeId} {c : Nat} {xs : List α} {i : Nat} {l : List Value} : FindX (oslx R t g c xs i l :: L) g α R t c xs i l L := ⟨Gives.refl _⟩
theorem focus_osl {t : TypeId} {i : Nat} {x : α} (hx : xs[i]? = some x) {W w : World} (hs : Sat W w (osl R t A c xs :: L)) : ∃ g l, A = some ⟨g, 0, none⟩ ∧ l.length = R.sz ∧ Sat W w (oslx R t g c xs i l :: is R x l :: L) := by
  obtain ⟨M, k, hd, hM, hk, h1, h2, hd', l1, l2, hp, hsep⟩ := hs.ex
  rcases hp.2 with ⟨_, rfl⟩ | ⟨g, cur, rfl, hg, hsz, hle, hc, hall⟩
  · simp at hx
  · obtain ⟨l, hl, hcu⟩ := hall i x hx
    exact ⟨g, l, rfl, R.len hl, ⟨M, k, hd, hM, hk, h1, h2, hd', l1, l2, ⟨cur, hg, hsz, hle, hc, hp.1, (List.getElem?_eq_some_iff.1 hx).1, R.len hl, fun k x _ hx => hall k x hx, hcu⟩, Mem.emp, h2, Mem.emp_disj _, Mem.emp_le _, Mem.le_refl _, hl, hsep⟩, hs.os, hs.tape, hs.output, hs.size⟩
theorem TL_focus {te : TypeId} {L0 : List HP} [ho : FindO L A c α R te xs L0] {i : Nat} {x : α} (hx : xs[i]? = some x) (h : ∀ g l, A = some ⟨g, 0, none⟩ → l.length = R.sz → TL r n P ops rest ⟨D, E, oslx R te g c xs i l :: is R x l :: L0⟩ K) : TL r n P ops rest ⟨D, E, L⟩ K := fun W a w hh => by
  obtain ⟨g, l, hA, hl, hs⟩ := focus_osl hx (hh.2.gives ho.g)
  exact h g l hA hl W a w ⟨hh.1, hs⟩
theorem TL_store_x {x y : Operand} {t te : TypeId} {g i j m : Nat} {l l' vs : List Value} {v : Value} {L0 : List HP} [hz : TySize P t m] [hc : FindX L g α R te c xs i l L0] (hx : ev E x = some (.pointer (some ⟨g, i * R.sz + j, none⟩))) (hy : ev E y = some v) (hp : partsOf v = some vs)
    (hm : Nat.beq vs.length m = true) (h1 : oneN vs = true) (hl : setN j l vs = some l') (h : TL r n P ops rest ⟨D, E, oslx R te g c xs i l' :: L0⟩ K) : TL r n P ops (⟨none, .store t x y, ty, pos, af, none⟩ :: rest) ⟨D, E, L⟩ K :=
  TL_skip rfl rfl (fun _ e => by cases e) fun W a w hh => by
    have hsat := hh.2.gives hc.g
    obtain ⟨M, k, hd, hM, hk, q1, q2, hd', l1, l2, ⟨cur, hg, a2, a3, a4, a5, a6, a7, a8, a9⟩, hs⟩ := hsat.ex
    have hm' : vs.length = m := Nat.eq_of_beq_eq_true hm
    obtain ⟨e, hle⟩ := setN_eq hl
    have hll : l'.length = l.length := by rw [e]; simp; omega
    have hw : w.heap[g]? = some (.cells cur te (0, 0)) := hk _ _ (l1 _ _ hg)
    have hin : i * R.sz + j + vs.length ≤ cur.toList.length := by
      have : (i + 1) * R.sz ≤ c * R.sz := Nat.mul_le_mul_right _ (by omega)
      rw [Nat.add_mul] at this
      simp only [Array.length_toList, a2]; omega
    have hst := run_storeCells_at P g (i * R.sz + j) te vs 0 cur w hw (by simpa using hin) (oneN_mem h1)
    simp only [Nat.add_zero] at hst
    let cur' : Array Value := (cur.toList.take (i * R.sz + j) ++ vs ++ cur.toList.drop (i * R.sz + j + vs.length)).toArray
    have hsat1 : Sat W w (own g (.cells cur te (0, 0)) :: pers (fun M => (∀ k x, k ≠ i → xs[k]? = some x → ∃ l, R.rep M x l ∧ ∀ j v, l[j]? = some v → cur[k * R.sz + j]? = some v)) (fun hM h k x hk hx => let ⟨l, a, b⟩ := h k x hk hx; ⟨l, R.mono hM a, b⟩) :: L0) :=
      ⟨⟨M, k, hd, hM, hk, q1, q2, hd', l1, l2, hg, Mem.emp, q2, Mem.emp_disj _, Mem.emp_le _, Mem.le_refl _, a8, hs⟩, hsat.os, hsat.tape, hsat.output, hsat.size⟩
    have hset := Sat.set hsat1 (w' := w.setRow g cur') (y := .cells cur' te (0, 0))
      (by simp only [World.setRow, Array.getElem?_modify, if_true, hw, Option.map_some]) (fun i hi => by simp only [World.setRow, Array.getElem?_modify]; rw [if_neg (Ne.symm hi)]) rfl rfl rfl (by simp [World.setRow])
    refine ⟨.skip, w.setRow g cur', oslx R te g c xs i l' :: L0, ?_, .inl rfl, hset.gives fun N mm ⟨k1, k2, kd, m1, m2, ha, k3, k4, kd', m3, m4, hx', hs'⟩ => ?_, h⟩
    · have hrun : (storeVar t ⟨g, i * R.sz + j, none⟩ v).run P w = .ok () (w.setRow g cur') := by
        simp only [storeVar, partsOf_eq hp, Sem.run_bind, hz.run, Result.andThen_ok, List.size_toArray, hm', ne_eq, not_true_eq_false, if_false, Sem.run_pure]
        simpa [cur'] using hst
      simp only [execOp, hh.1.ev hx, hh.1.ev hy, Instr.storeAt, Instr.sureAddr, Sem.run_bind, Sem.run_pure, Result.andThen_ok, hrun]
    · have hcl : cur.toList.length = c * R.sz := by simp [a2]
      have htl : (cur.toList.take (i * R.sz + j)).length = i * R.sz + j := by rw [List.length_take]; omega
      have hjl : j + vs.length ≤ R.sz := by omega
      refine ⟨k1, k4, Mem.disj_le kd (Mem.le_refl _) m4, m1, Mem.le_trans m4 m2, ⟨cur', ha, ?_, a3, a4, a5, a6, by rw [hll]; exact a7, fun q x hq hqx => ?_, fun q v hq => ?_⟩, hs'⟩
      · simp only [cur', List.size_toArray, List.length_append, List.length_take, List.length_drop, hcl]; omega
      · obtain ⟨lq, b1, b2⟩ := hx' q x hq hqx
        refine ⟨lq, b1, fun p v hp => ?_⟩
        have hb := b2 p v hp
        have hpl : p < R.sz := by rw [← R.len b1]; exact (List.getElem?_eq_some_iff.1 hp).1
        have hqk : q < xs.length := (List.getElem?_eq_some_iff.1 hqx).1
        simp only [cur', List.getElem?_toArray]
        rcases Nat.lt_or_gt_of_ne hq with hlt | hgt
        · have : (q + 1) * R.sz ≤ i * R.sz := Nat.mul_le_mul_right _ hlt
          rw [Nat.add_mul] at this
          rw [List.append_assoc, List.getElem?_append_left (by omega), List.getElem?_take, if_pos (by omega)]
          simpa using hb
        · have : (i + 1) * R.sz ≤ q * R.sz := Nat.mul_le_mul_right _ hgt
          rw [Nat.add_mul] at this
          rw [List.getElem?_append_right (by simp only [List.length_append, htl]; omega), List.getElem?_drop]
          simp only [List.length_append, htl]
          rw [show i * R.sz + j + vs.length + (q * R.sz + p - (i * R.sz + j + vs.length)) = q * R.sz + p by omega]
          simpa using hb
      · simp only [cur', List.getElem?_toArray]
        rw [e] at hq
        by_cases h0 : q < j
        · have hq2 : l[q]? = some v := by
            rw [List.append_assoc, List.getElem?_append_left (by rw [List.length_take]; omega), List.getElem?_take, if_pos h0] at hq
            exact hq
          rw [List.append_assoc, List.getElem?_append_left (by omega), List.getElem?_take, if_pos (by omega)]
          simpa using a9 q v hq2
        · have hlt : (l.take j).length = j := by rw [List.length_take]; omega
          by_cases h1' : q < j + vs.length
          · rw [List.append_assoc, List.getElem?_append_right (by omega), hlt, List.getElem?_append_left (by omega)] at hq
            rw [List.append_assoc, List.getElem?_append_right (by omega), htl, show i * R.sz + q - (i * R.sz + j) = q - j by omega, List.getElem?_append_left (by omega)]
            exact hq
          · have hq2 : l[q]? = some v := by
              rw [List.getElem?_append_right (by simp only [List.length_append, hlt]; omega), List.getElem?_drop] at hq
              simp only [List.length_append, hlt] at hq
              rwa [show j + vs.length + (q - (j + vs.length)) = q by omega] at hq
            rw [List.getElem?_append_right (by simp only [List.length_append, htl]; omega), List.getElem?_drop]
            simp only [List.length_append, htl]
            rw [show i * R.sz + j + vs.length + (i * R.sz + q - (i * R.sz + j + vs.length)) = i * R.sz + q by omega]
            simpa using a9 q v hq2
theorem unfocus {t : TypeId} {g i : Nat} {l : List Value} (x : α) (hk : Knows L (fun M => R.rep M x l)) : Gives (oslx R t g c xs i l :: L) (osl R t (some ⟨g, 0, none⟩) c (xs.set i x) :: L) := fun M k ⟨h1, h2, hd, l1, l2, ⟨cur, a1, a2, a3, a4, a5, a6, a7, a8, a9⟩, hs⟩ => by
  have hrep := hk M h2 hs
  refine ⟨h1, h2, hd, l1, l2, ⟨by simpa using a5, .inr ⟨g, cur, rfl, a1, a2, by simpa using a3, a4, fun q y hq => ?_⟩⟩, hs⟩
  rw [List.getElem?_set] at hq
  split at hq
  · rename_i e
    subst e
    first | (rw [if_pos a6] at hq; cases hq) | cases hq
    exact ⟨l, hrep, a9⟩
  · rename_i e
    exact a8 q y (fun h => e h.symm) hq
/-- The element is shut again. -/
theorem TL_unx {te : TypeId} (g : Nat) {i : Nat} {l : List Value} (x : α) {L0 : List HP} [hf : FindX L g α R te c xs i l L0] (hk : Knows L0 (fun M => R.rep M x l)) (h : TL r n P ops rest ⟨D, E, osl R te (some ⟨g, 0, none⟩) c (xs.set i x) :: L0⟩ K) : TL r n P ops rest ⟨D, E, L⟩ K := TL_gives (hf.g.trans (unfocus x hk)) h
/-! ### make -/
theorem cellsOf_zeros {M : Mem} {z : List Value} {x : α} (hr : R.rep M x z) : ∀ k, CellsOf M R (List.replicate k x) (zerosN k z)
  | 0 => rfl
  | k + 1 => ⟨z, zerosN k z, hr, cellsOf_zeros hr k, rfl⟩
/-! ### A chain of truths, joined -/
theorem sub_ext {E E' : Env} {d : Nat} {v : Value} (hd : look E d = none) (hs : ∀ i u, look E i = some u → look E' i = some u) : ∀ i u, look E i = some u → look ((d, v) :: E') i = some u := fun i u h => by
  simp only [look]
  cases e : Nat.beq d i with
  | true =>
    have : d = i := Nat.eq_of_beq_eq_true e
    subst this
    rw [hd] at h; cases h
  | false => exact hs i u h
theorem sub_refl {E : Env} : ∀ i u, look E i = some u → look E i = some u := fun _ _ h => h
theorem TL_chain_end {E' : Env} {g : Nat} {v : Value} {p : Prop} [Decidable p] (hl : look E' g = some v) (e : v = .bool (decide p)) (hs : ∀ i u, look E i = some u → look E' i = some u) (hg : Gives L' L) :
    TL r n P ops [] ⟨D, E', L'⟩ (fun s' => ∀ W a w, Holds n W s' a w → Holds n W ⟨D, (g, .bool (decide p)) :: E, L⟩ a w) :=
  TL_nil (holds_to (sub_cons (by rw [hl, e]) hs) hg)
end
end Go.SL
