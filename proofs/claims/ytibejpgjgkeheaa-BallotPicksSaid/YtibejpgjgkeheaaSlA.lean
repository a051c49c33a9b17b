/- A small separation logic over the model's weakest preconditions: heap assertions, symbolic states, judgements on operations and code. Nothing in this text is about one program. -/
import Derived.OrdersIn
import Derived.TacticsIn
import Derived.CallsIn
import Derived.Tactics
import Derived.Maps.AppendAt
import Derived.Laws.World
set_option linter.unusedVariables false
set_option linter.unusedSimpArgs false
namespace Go.SL
open Go

/-! ### Heaps and assertions -/
abbrev Mem := Nat → Option Obj
def Mem.le (M N : Mem) : Prop := ∀ b x, M b = some x → N b = some x
def Mem.disj (M N : Mem) : Prop := ∀ b, M b = none ∨ N b = none
def heapOf (w : World) : Mem := fun b => w.heap[b]?
theorem Mem.le_refl (M : Mem) : M.le M := fun _ _ h => h
theorem Mem.le_trans {A B C : Mem} (h : A.le B) (k : B.le C) : A.le C := fun b x hx => k b x (h b x hx)
theorem Mem.disj_le {A B A' B' : Mem} (h : A.disj B) (ha : A'.le A) (hb : B'.le B) : A'.disj B' := fun b => by
  rcases h b with h | h
  · left
    cases hx : A' b with
    | none => rfl
    | some x => rw [ha b x hx] at h; cases h
  · right
    cases hx : B' b with
    | none => rfl
    | some x => rw [hb b x hx] at h; cases h
theorem Mem.disj_symm {A B : Mem} (h : A.disj B) : B.disj A := fun b => (h b).symm
def Mem.join (A B : Mem) : Mem := fun b => match A b with | some x => some x | none => B b
theorem Mem.le_join_left (A B : Mem) : A.le (A.join B) := fun b x h => by simp [Mem.join, h]
theorem Mem.le_join_right {A B : Mem} (hd : A.disj B) : B.le (A.join B) := fun b x h => by
  rcases hd b with ha | hb
  · simp [Mem.join, ha, h]
  · rw [h] at hb; cases hb
theorem Mem.join_le {A B C : Mem} (ha : A.le C) (hb : B.le C) : (A.join B).le C := fun b x h => by
  unfold Mem.join at h
  cases hA : A b with
  | some y => rw [hA] at h; exact ha b x (by rw [hA]; exact h)
  | none => rw [hA] at h; exact hb b x h
theorem Mem.join_disj {A B C : Mem} (ha : A.disj C) (hb : B.disj C) : (A.join B).disj C := fun b => by
  rcases ha b with h | h
  · rcases hb b with k | k
    · left; simp [Mem.join, h, k]
    · exact .inr k
  · exact .inr h
def Mem.emp : Mem := fun _ => none
def Mem.one (b : Nat) (x : Obj) : Mem := fun i => if i = b then some x else none
theorem Mem.emp_le (M : Mem) : Mem.emp.le M := fun _ _ h => by cases h
theorem Mem.emp_disj (M : Mem) : Mem.emp.disj M := fun _ => .inl rfl
theorem Mem.disj_emp (M : Mem) : M.disj Mem.emp := fun _ => .inr rfl
theorem Mem.one_self (b : Nat) (x : Obj) : Mem.one b x b = some x := by simp [Mem.one]
theorem Mem.one_le {b : Nat} {x : Obj} {M : Mem} (h : M b = some x) : (Mem.one b x).le M := fun i y hy => by
  unfold Mem.one at hy
  split at hy
  · rename_i e; subst e; cases hy; exact h
  · cases hy

/-- An assertion on what nobody writes any more (first) and on what is owned (second). -/
structure HP where
  holds : Mem → Mem → Prop
  mono : ∀ {M N h k : Mem}, M.le N → h.le k → holds M h → holds N k

def Sep : List HP → Mem → Mem → Prop
  | [], _, _ => True
  | p :: ps, M, h => ∃ h1 h2, h1.disj h2 ∧ h1.le h ∧ h2.le h ∧ p.holds M h1 ∧ Sep ps M h2
theorem Sep.mono {L : List HP} : ∀ {M N h k : Mem}, M.le N → h.le k → Sep L M h → Sep L N k := by
  induction L with
  | nil => intro M N h k _ _ _; trivial
  | cons p ps ih =>
    rintro M N h k hM hh ⟨h1, h2, hd, l1, l2, hp, hs⟩
    exact ⟨h1, h2, hd, (Mem.le_trans l1 hh), (Mem.le_trans l2 hh), p.mono hM (Mem.le_refl _) hp, ih hM (Mem.le_refl _) hs⟩

structure Sat (o w : World) (L : List HP) : Prop where
  ex : ∃ M h, M.disj h ∧ M.le (heapOf w) ∧ h.le (heapOf w) ∧ Sep L M h
  os : w.os = o.os
  tape : w.tape = o.tape
  output : w.output = o.output
  size : o.heap.size ≤ w.heap.size

/-- What is true of all states of L follows. -/
theorem Sat.weaken {o w : World} {L L' : List HP} (h : Sat o w L) (hl : ∀ M k, Sep L M k → Sep L' M k) : Sat o w L' :=
  ⟨let ⟨M, k, a, b, c, d⟩ := h.ex; ⟨M, k, a, b, c, hl M k d⟩, h.os, h.tape, h.output, h.size⟩

/-- L' can be had of L. -/
def Gives (L L' : List HP) : Prop := ∀ M k, Sep L M k → Sep L' M k
theorem Gives.refl (L : List HP) : Gives L L := fun _ _ h => h
theorem Gives.trans {A B C : List HP} (h : Gives A B) (k : Gives B C) : Gives A C := fun M m x => k M m (h M m x)
theorem Gives.cons {L L' : List HP} (p : HP) (h : Gives L L') : Gives (p :: L) (p :: L') := fun M k ⟨h1, h2, hd, l1, l2, hp, hs⟩ => ⟨h1, h2, hd, l1, l2, hp, h M h2 hs⟩
theorem Gives.drop (p : HP) (L : List HP) : Gives (p :: L) L := fun M k ⟨h1, h2, hd, l1, l2, hp, hs⟩ => Sep.mono (Mem.le_refl _) l2 hs
theorem Gives.nil (L : List HP) : Gives L [] := fun _ _ _ => trivial
theorem Gives.swap (p q : HP) (L : List HP) : Gives (p :: q :: L) (q :: p :: L) := by
  rintro M k ⟨h1, h2, hd, l1, l2, hp, h3, h4, hd', l3, l4, hq, hs⟩
  refine ⟨h3, h1.join h4, ?_, (Mem.le_trans l3 l2), Mem.join_le l1 (Mem.le_trans l4 l2), hq, h1, h4, ?_, Mem.le_join_left _ _, ?_, hp, hs⟩
  · exact Mem.disj_symm (Mem.join_disj (Mem.disj_le hd (Mem.le_refl _) l3) (Mem.disj_symm hd'))
  · exact Mem.disj_le hd (Mem.le_refl _) l4
  · exact Mem.le_join_right (Mem.disj_le hd (Mem.le_refl _) l4)
/-- Number k comes to the front. -/
def pull : Nat → List HP → List HP
  | _, [] => []
  | 0, L => L
  | k + 1, p :: L => match pull k L with
    | [] => [p]
    | q :: R => q :: p :: R
theorem Gives.pull : ∀ (k : Nat) (L : List HP), Gives L (SL.pull k L)
  | _, [] => by
    intro M h _
    cases ‹Nat› <;> trivial
  | 0, p :: L => Gives.refl _
  | k + 1, p :: L => by
    have ih := Gives.pull k L
    simp only [SL.pull]
    cases e : SL.pull k L with
    | nil => rw [e] at ih; exact Gives.cons p ih
    | cons q R => rw [e] at ih; exact (Gives.cons p ih).trans (Gives.swap p q R)

/-- An assertion that says nothing on what is owned. -/
def pers (φ : Mem → Prop) (hm : ∀ {M N : Mem}, M.le N → φ M → φ N) : HP := ⟨fun M _ => φ M, fun hM _ h => hm hM h⟩
def pure (p : Prop) : HP := ⟨fun _ _ => p, fun _ _ h => h⟩
/-- Block b is x, nobody writes it any more. -/
def imm (b : Nat) (x : Obj) : HP := ⟨fun M _ => M b = some x, fun hM _ h => hM _ _ h⟩
/-- Block b is x, and is ours. -/
def own (b : Nat) (x : Obj) : HP := ⟨fun _ h => h b = some x, fun _ hh h => hh _ _ h⟩
/-- All of M0 lies as it lay. -/
def base (M0 : Mem) : HP := ⟨fun M _ => M0.le M, fun hM _ h => (Mem.le_trans h hM)⟩
/-- φ is known in all states of L. -/
def Knows (L : List HP) (φ : Mem → Prop) : Prop := ∀ M h, Sep L M h → φ M
theorem Knows.mono {L : List HP} {φ ψ : Mem → Prop} (h : Knows L φ) (k : ∀ M, φ M → ψ M) : Knows L ψ := fun M m x => k M (h M m x)
theorem Knows.and {L : List HP} {φ ψ : Mem → Prop} (h : Knows L φ) (k : Knows L ψ) : Knows L (fun M => φ M ∧ ψ M) := fun M m x => ⟨h M m x, k M m x⟩
theorem Knows.const {L : List HP} {φ : Mem → Prop} (h : ∀ M, φ M) : Knows L φ := fun M _ _ => h M
theorem Knows.tail {p : HP} {L : List HP} {φ : Mem → Prop} (h : Knows L φ) : Knows (p :: L) φ := fun M m x => h M m (Gives.drop p L M m x)
theorem Knows.head {L : List HP} {φ : Mem → Prop} {hm : ∀ {M N : Mem}, M.le N → φ M → φ N} : Knows (pers φ hm :: L) φ := fun M m ⟨_, _, _, _, _, hp, _⟩ => hp
theorem Knows.of_gives {L L' : List HP} {φ : Mem → Prop} (g : Gives L L') (h : Knows L' φ) : Knows L φ := fun M m x => h M m (g M m x)
/-- What is known may be laid beside. -/
theorem Knows.lay {L : List HP} {φ : Mem → Prop} {hm : ∀ {M N : Mem}, M.le N → φ M → φ N} (h : Knows L φ) : Gives L (pers φ hm :: L) := fun M m x =>
  ⟨Mem.emp, m, Mem.emp_disj _, Mem.emp_le _, Mem.le_refl _, h M m x, x⟩
theorem Gives.pure_intro {L : List HP} {p : Prop} (h : p) : Gives L (pure p :: L) := fun M m x => ⟨Mem.emp, m, Mem.emp_disj _, Mem.emp_le _, Mem.le_refl _, h, x⟩

/-- An assertion on what nobody writes may be doubled. -/
class Pers (p : HP) : Prop where
  emp : ∀ M h, p.holds M h → p.holds M Mem.emp
instance {φ : Mem → Prop} {hm : ∀ {M N : Mem}, M.le N → φ M → φ N} : Pers (pers φ hm) := ⟨fun _ _ h => h⟩
instance {p : Prop} : Pers (pure p) := ⟨fun _ _ h => h⟩
instance {b : Nat} {x : Obj} : Pers (imm b x) := ⟨fun _ _ h => h⟩
instance {M0 : Mem} : Pers (base M0) := ⟨fun _ _ h => h⟩
theorem Gives.dup (p : HP) [Pers p] (L : List HP) : Gives (p :: L) (p :: p :: L) := fun M m ⟨h1, h2, hd, l1, l2, hp, hs⟩ =>
  ⟨Mem.emp, m, Mem.emp_disj _, Mem.emp_le _, Mem.le_refl _, Pers.emp _ _ hp, h1, h2, hd, l1, l2, hp, hs⟩
/-- p is among L (and may be doubled). -/
def Has (L : List HP) (p : HP) : Prop := Gives L (p :: L)
theorem Has.head (p : HP) [Pers p] (L : List HP) : Has (p :: L) p := Gives.dup p L
theorem Has.tail {p q : HP} {L : List HP} (h : Has L p) : Has (q :: L) p := (Gives.cons q h).trans (Gives.swap q p L)
theorem Has.knows {L : List HP} {φ : Mem → Prop} {hm : ∀ {M N : Mem}, M.le N → φ M → φ N} (h : Has L (pers φ hm)) : Knows L φ := fun M m x => by
  obtain ⟨_, _, _, _, _, hp, _⟩ := h M m x
  exact hp
theorem Has.knows_imm {L : List HP} {b : Nat} {x : Obj} (h : Has L (imm b x)) : Knows L (fun M => M b = some x) := fun M m y => by
  obtain ⟨_, _, _, _, _, hp, _⟩ := h M m y
  exact hp
theorem Knows.has {L : List HP} {φ : Mem → Prop} {hm : ∀ {M N : Mem}, M.le N → φ M → φ N} (h : Knows L φ) : Has L (pers φ hm) := Knows.lay h

/-! ### A step of the world -/
theorem Sat.gives {o w : World} {L L' : List HP} (h : Sat o w L) (g : Gives L L') : Sat o w L' := h.weaken g
/-- A new block. -/
theorem Sat.alloc {o w : World} {L : List HP} (h : Sat o w L) (x : Obj) : Sat o (w.alloc x) (own w.heap.size x :: L) := by
  obtain ⟨M, k, hd, hM, hk, hs⟩ := h.ex
  have hnew : ∀ {N : Mem}, N.le (heapOf w) → N w.heap.size = none := by
    intro N hN
    cases e : N w.heap.size with
    | none => rfl
    | some y =>
      have := hN _ _ e
      simp [heapOf] at this
  have hold : (heapOf w).le (heapOf (w.alloc x)) := fun b y hy => by
    have hy' : w.heap[b]? = some y := hy
    have := (Array.getElem?_eq_some_iff.1 hy').1
    show (w.heap.push x)[b]? = some y
    rw [Array.getElem?_push, if_neg (by omega)]
    exact hy'
  have hone : (Mem.one w.heap.size x).le (heapOf (w.alloc x)) := Mem.one_le (by show (w.heap.push x)[w.heap.size]? = some x; simp)
  have hdk : (Mem.one w.heap.size x).disj k := fun b => by
    by_cases e : b = w.heap.size
    · subst e; exact .inr (hnew hk)
    · left; simp [Mem.one, e]
  refine ⟨⟨M, (Mem.one w.heap.size x).join k, ?_, (Mem.le_trans hM hold), Mem.join_le hone (Mem.le_trans hk hold), Mem.one w.heap.size x, k, hdk, Mem.le_join_left _ _, Mem.le_join_right hdk, Mem.one_self _ _, hs⟩, h.os, h.tape, h.output, ?_⟩
  · refine Mem.disj_symm (Mem.join_disj ?_ (Mem.disj_symm hd))
    intro b
    by_cases e : b = w.heap.size
    · subst e; exact .inr (hnew hM)
    · left; simp [Mem.one, e]
  · have := h.size
    show o.heap.size ≤ (w.heap.push x).size
    simp
    omega
/-- A new block, laid however. -/
theorem Sat.new {o w w' : World} {L : List HP} {x : Obj} (h : Sat o w L) (hb : w'.heap[w.heap.size]? = some x) (hold' : ∀ i, i < w.heap.size → w'.heap[i]? = w.heap[i]?) (hos : w'.os = w.os) (htape : w'.tape = w.tape) (hout : w'.output = w.output) (hsz : w.heap.size ≤ w'.heap.size) : Sat o w' (own w.heap.size x :: L) := by
  obtain ⟨M, k, hd, hM, hk, hs⟩ := h.ex
  have hnew : ∀ {N : Mem}, N.le (heapOf w) → N w.heap.size = none := by
    intro N hN
    cases e : N w.heap.size with
    | none => rfl
    | some y =>
      have := hN _ _ e
      simp [heapOf] at this
  have hold : (heapOf w).le (heapOf w') := fun b y hy => by
    have hy' : w.heap[b]? = some y := hy
    have := (Array.getElem?_eq_some_iff.1 hy').1
    show w'.heap[b]? = some y
    rw [hold' b this]
    exact hy'
  have hone : (Mem.one w.heap.size x).le (heapOf w') := Mem.one_le hb
  have hdk : (Mem.one w.heap.size x).disj k := fun b => by
    by_cases e : b = w.heap.size
    · subst e; exact .inr (hnew hk)
    · left; simp [Mem.one, e]
  refine ⟨⟨M, (Mem.one w.heap.size x).join k, ?_, (Mem.le_trans hM hold), Mem.join_le hone (Mem.le_trans hk hold), Mem.one w.heap.size x, k, hdk, Mem.le_join_left _ _, Mem.le_join_right hdk, Mem.one_self _ _, hs⟩, hos.trans h.os, htape.trans h.tape, hout.trans h.output, Nat.le_trans h.size hsz⟩
  refine Mem.disj_symm (Mem.join_disj ?_ (Mem.disj_symm hd))
  intro b
  by_cases e : b = w.heap.size
  · subst e; exact .inr (hnew hM)
  · left; simp [Mem.one, e]
theorem Sat.drew {o w : World} {L : List HP} (h : Sat o w L) : Sat o { w with drawn := w.drawn + 1 } L := ⟨h.ex, h.os, h.tape, h.output, h.size⟩
/-- A block of ours is turned. -/
theorem Sat.set {o w w' : World} {L : List HP} {b : Nat} {x y : Obj} (h : Sat o w (own b x :: L)) (hb : w'.heap[b]? = some y) (hr : ∀ i, i ≠ b → w'.heap[i]? = w.heap[i]?)
    (hos : w'.os = w.os) (htape : w'.tape = w.tape) (hout : w'.output = w.output) (hsz : w.heap.size ≤ w'.heap.size) : Sat o w' (own b y :: L) := by
  obtain ⟨M, k, hd, hM, hk, h1, h2, hd', l1, l2, hp, hs⟩ := h.ex
  have hkb : k b = some x := l1 _ _ hp
  have hMb : M b = none := by
    rcases hd b with e | e
    · exact e
    · rw [hkb] at e; cases e
  have h2b : h2 b = none := by
    rcases hd' b with e | e
    · rw [hp] at e; cases e
    · exact e
  have hnb : ∀ {N : Mem}, N b = none → N.le (heapOf w) → N.le (heapOf w') := fun {N} e hN i z hz => by
    have hne : i ≠ b := by rintro rfl; rw [e] at hz; cases hz
    show w'.heap[i]? = some z
    rw [hr i hne]
    exact hN i z hz
  have hdk : (Mem.one b y).disj h2 := fun i => by
    by_cases e : i = b
    · subst e; exact .inr h2b
    · left; simp [Mem.one, e]
  refine ⟨⟨M, (Mem.one b y).join h2, ?_, hnb hMb hM, Mem.join_le (Mem.one_le hb) (hnb h2b (Mem.le_trans l2 hk)), Mem.one b y, h2, hdk, Mem.le_join_left _ _, Mem.le_join_right hdk, Mem.one_self _ _, hs⟩, hos.trans h.os, htape.trans h.tape, hout.trans h.output, Nat.le_trans h.size hsz⟩
  refine Mem.disj_symm (Mem.join_disj ?_ (Mem.disj_symm (Mem.disj_le hd (Mem.le_refl _) l2)))
  intro i
  by_cases e : i = b
  · subst e; exact .inr hMb
  · left; simp [Mem.one, e]
theorem Sat.own_at {o w : World} {L : List HP} {b : Nat} {x : Obj} (h : Sat o w (own b x :: L)) : w.heap[b]? = some x := by
  obtain ⟨M, k, hd, hM, hk, h1, h2, hd', l1, l2, hp, hs⟩ := h.ex
  exact hk _ _ (l1 _ _ hp)
theorem Sat.knows {o w : World} {L : List HP} {φ : Mem → Prop} (h : Sat o w L) (k : Knows L φ) : ∃ M : Mem, M.le (heapOf w) ∧ φ M := by
  obtain ⟨M, m, hd, hM, hk, hs⟩ := h.ex
  exact ⟨M, hM, k M m hs⟩
/-- Nobody shall write a block of ours any more. -/
theorem Sat.freeze {o w : World} {L : List HP} {b : Nat} {x : Obj} (h : Sat o w (own b x :: L)) : Sat o w (imm b x :: L) := by
  obtain ⟨M, k, hd, hM, hk, h1, h2, hd', l1, l2, hp, hs⟩ := h.ex
  have hkb : k b = some x := l1 _ _ hp
  have hMb : M b = none := by
    rcases hd b with e | e
    · exact e
    · rw [hkb] at e; cases e
  have h2b : h2 b = none := by
    rcases hd' b with e | e
    · rw [hp] at e; cases e
    · exact e
  have hd1 : (Mem.one b x).disj M := fun i => by
    by_cases e : i = b
    · subst e; exact .inr hMb
    · left; simp [Mem.one, e]
  refine ⟨⟨(Mem.one b x).join M, h2, Mem.join_disj ?_ (Mem.disj_le hd (Mem.le_refl _) l2), Mem.join_le (Mem.one_le (hk _ _ hkb)) hM, (Mem.le_trans l2 hk), Mem.emp, h2, Mem.emp_disj _, Mem.emp_le _, Mem.le_refl _, Mem.le_join_left _ _ _ _ (Mem.one_self _ _), Sep.mono (Mem.le_join_right hd1) (Mem.le_refl _) hs⟩, h.os, h.tape, h.output, h.size⟩
  intro i
  by_cases e : i = b
  · subst e; exact .inr h2b
  · left; simp [Mem.one, e]

/-! ### Symbolic states -/
abbrev Env := List (Nat × Value)
def look : Env → Nat → Option Value
  | [], _ => none
  | (i, v) :: E, j => bif Nat.beq i j then some v else look E j
def ev (E : Env) : Operand → Option Value
  | .tmp t => look E t
  | .const v => some v
  | .global g => some (.pointer (some ⟨g, 0, none⟩))
  | .func f => some (.func (.func f) #[] #[])
def evl (E : Env) : List Operand → Option (List Value)
  | [] => some []
  | x :: xs => match ev E x, evl E xs with
    | some v, some vs => some (v :: vs)
    | _, _ => none
structure View (n : Nat) (D : List Deferred) (a : Act) (E : Env) : Prop where
  size : a.tmps.size = n
  defers : a.defers = D
  get : ∀ i v, look E i = some v → a.tmps[i]? = some v
theorem View.put {n : Nat} {D : List Deferred} {a : Act} {E : Env} (h : View n D a E) {d : Nat} (hd : d < n) (v : Value) : View n D (a.put (some d) v) ((d, v) :: E) := by
  refine ⟨by simp [Act.put, h.size], h.defers, fun i u hu => ?_⟩
  simp only [look] at hu
  cases e : Nat.beq d i with
  | true =>
    rw [e] at hu
    simp only [cond_true, Option.some.injEq] at hu
    have : d = i := Nat.eq_of_beq_eq_true e
    subst this; subst hu
    simp [Act.put, h.size, hd]
  | false =>
    rw [e] at hu
    simp only [cond_false] at hu
    have hne : d ≠ i := fun e' => by subst e'; simp at e
    simp only [Act.put]
    rw [Array.getElem?_setIfInBounds_ne hne]
    exact h.get i u hu
theorem View.ev {n : Nat} {D : List Deferred} {a : Act} {E : Env} (h : View n D a E) {x : Operand} {v : Value} (hx : SL.ev E x = some v) : a.eval x = v := by
  cases x with
  | tmp t =>
    have := h.get t v hx
    simp [Act.eval, this]
  | const u => simp [SL.ev] at hx; simp [Act.eval, hx]
  | «global» g => simp [SL.ev] at hx; simp [Act.eval, hx]
  | func f => simp [SL.ev] at hx; simp [Act.eval, hx]
theorem View.evl {n : Nat} {D : List Deferred} {a : Act} {E : Env} (h : View n D a E) : ∀ {xs : List Operand} {vs : List Value}, SL.evl E xs = some vs → xs.map a.eval = vs
  | [], vs, hx => by simp [SL.evl] at hx; simp [hx]
  | x :: xs, vs, hx => by
    simp only [SL.evl] at hx
    cases e1 : SL.ev E x with
    | none => rw [e1] at hx; cases hx
    | some v =>
      cases e2 : SL.evl E xs with
      | none => rw [e1, e2] at hx; cases hx
      | some us =>
        rw [e1, e2] at hx
        cases hx
        simp [h.ev e1, View.evl h e2]
theorem View.less {n : Nat} {D : List Deferred} {a : Act} {E E' : Env} (h : View n D a E) (hE : ∀ i v, look E' i = some v → look E i = some v) : View n D a E' :=
  ⟨h.size, h.defers, fun i v hv => h.get i v (hE i v hv)⟩

structure St where
  D : List Deferred
  E : Env
  L : List HP
def Holds (n : Nat) (o : World) (s : St) (a : Act) (w : World) : Prop := View n s.D a s.E ∧ Sat o w s.L

abbrev Fw (r : Option Nat) : Fence := { fn := fun _ => True, depth := none, alive := false, round := r }

/-- From any state that s tells, c comes to an end that Q tells. -/
def T (r : Option Nat) (n : Nat) (P : Program) (c : Code) (s : St) (Q : Exit → St → Prop) : Prop :=
  ∀ o a w, Holds n o s a w → c.wpIn (Fw r) 0 P (fun e a' w' => ∃ s', Q e s' ∧ Holds n o s' a' w') a w
def TL (r : Option Nat) (n : Nat) (P : Program) (ops : Array Oper) (l : List Oper) (s : St) (K : St → Prop) : Prop :=
  ∀ o a w, Holds n o s a w → wpListIn (Fw r) 0 P ops (fun e a' w' => e = .normal ∧ ∃ s', K s' ∧ Holds n o s' a' w') l a w
/-- The function, called so, returns what Φ tells. -/
def Fn (P : Program) (f : FuncId) (args : Array Value) (L : List HP) (Φ : Value → List HP → Prop) : Prop :=
  ∀ o w, Sat o w L → Calls P f args w fun e w' => ∃ v L', e = .returned v ∧ Φ v L' ∧ Sat o w' L'

/-! ### A weaker end -/
theorem uponIn_mono {F : Fence} {m : Nat} {P : Program} {o : Oper} {a : Act} {N N' : Act → World → Prop} {Q Q' : Exit → Act → World → Prop} (hn : ∀ a w, N a w → N' a w) (hq : ∀ c a w, Q (.panic c) a w → Q' (.panic c) a w) (hout : LetsOut Q → LetsOut Q') (x : Result Next)
    (h : o.uponIn F m P a N Q x) : o.uponIn F m P a N' Q' x := by
  cases x with
  | ok v w =>
    cases v <;> simp only [Oper.uponIn] at h ⊢
    case value => exact hn _ _ h
    case skip => exact hn _ _ h
    case defer => exact hn _ _ h
    case enter => exact ⟨h.1, h.2.mono fun e w' he => by cases e <;> simp only at he ⊢ <;> first | exact hn _ _ he | exact hq _ _ _ he | exact hout he⟩
    case row => exact ⟨h.1, h.2.mono fun v w' he => hn _ _ he⟩
    case round => exact ⟨h.1, h.2.mono fun e w' he => by cases e <;> simp only at he ⊢ <;> first | exact hn _ _ he | exact hq _ _ _ he | exact hout he⟩
  | halt x w => cases x <;> simp only [Oper.uponIn] at h ⊢; exact hq _ _ _ h
theorem wpListIn_mono {F : Fence} {m : Nat} {P : Program} {ops : Array Oper} {Q Q' : Exit → Act → World → Prop} (hq : ∀ e a w, Q e a w → Q' e a w) : ∀ (l : List Oper) (a : Act) (w : World), wpListIn F m P ops Q l a w → wpListIn F m P ops Q' l a w
  | [], a, w, h => hq _ _ _ h
  | o :: rest, a, w, h => by
    simp only [wpListIn] at h ⊢
    split
    · rename_i hw
      rw [if_pos hw] at h
      exact ⟨h.1, uponIn_mono (wpListIn_mono hq rest) (fun c => hq _) (fun ⟨a, w, h⟩ => ⟨a, w, hq _ _ _ h⟩) _ h.2⟩
    · rename_i hw
      rw [if_neg hw] at h
      exact ⟨h.1, wpListIn_mono hq rest _ _ h.2⟩

section
variable {r : Option Nat} {n : Nat} {P : Program} {ops : Array Oper} {rest : List Oper} {o : Oper} {s : St} {K : St → Prop} {Q : Exit → St → Prop} {D : List Deferred} {E : Env} {L L' : List HP}

theorem T.mono {c : Code} {Q' : Exit → St → Prop} (h : T r n P c s Q) (hq : ∀ e s, Q e s → Q' e s) : T r n P c s Q' := fun W a w hh =>
  wpIn_mono (h W a w hh) fun e a' w' ⟨s', q, k⟩ => ⟨s', hq _ _ q, k⟩
theorem Holds.gives {W : World} {a : Act} {w : World} (h : Holds n W ⟨D, E, L⟩ a w) (g : Gives L L') : Holds n W ⟨D, E, L'⟩ a w := ⟨h.1, h.2.gives g⟩
theorem T_gives {c : Code} (g : Gives L L') (h : T r n P c ⟨D, E, L'⟩ Q) : T r n P c ⟨D, E, L⟩ Q := fun W a w hh => h W a w (hh.gives g)
theorem TL_gives (g : Gives L L') (h : TL r n P ops rest ⟨D, E, L'⟩ K) : TL r n P ops rest ⟨D, E, L⟩ K := fun W a w hh => h W a w (hh.gives g)
theorem TL_pull (k : Nat) (e : pull k L = L') (h : TL r n P ops rest ⟨D, E, L'⟩ K) : TL r n P ops rest ⟨D, E, L⟩ K := TL_gives (by rw [← e]; exact Gives.pull k L) h
theorem T_pull {c : Code} (k : Nat) (e : pull k L = L') (h : T r n P c ⟨D, E, L'⟩ Q) : T r n P c ⟨D, E, L⟩ Q := T_gives (by rw [← e]; exact Gives.pull k L) h
/-- A fact that all states of L bear out. -/
theorem TL_fact {φ : Mem → Prop} {p : Prop} (k : Knows L φ) (hp : ∀ M, φ M → p) (h : p → TL r n P ops rest ⟨D, E, L⟩ K) : TL r n P ops rest ⟨D, E, L⟩ K := fun W a w hh => by
  obtain ⟨M, _, hφ⟩ := hh.2.knows k
  exact h (hp M hφ) W a w hh
theorem T_fact {c : Code} {φ : Mem → Prop} {p : Prop} (k : Knows L φ) (hp : ∀ M, φ M → p) (h : p → T r n P c ⟨D, E, L⟩ Q) : T r n P c ⟨D, E, L⟩ Q := fun W a w hh => by
  obtain ⟨M, _, hφ⟩ := hh.2.knows k
  exact h (hp M hφ) W a w hh
theorem Fn_fact {f : FuncId} {args : Array Value} {Φ : Value → List HP → Prop} {φ : Mem → Prop} {p : Prop} (k : Knows L φ) (hp : ∀ M, φ M → p) (h : p → Fn P f args L Φ) : Fn P f args L Φ := fun W w hh => by
  obtain ⟨M, _, hφ⟩ := hh.knows k
  exact h (hp M hφ) W w hh
theorem Fn_gives {f : FuncId} {args : Array Value} {Φ : Value → List HP → Prop} (g : Gives L L') (h : Fn P f args L' Φ) : Fn P f args L Φ := fun W w hh => h W w (hh.gives g)
theorem Fn.mono {f : FuncId} {args : Array Value} {Φ Ψ : Value → List HP → Prop} (h : Fn P f args L Φ) (k : ∀ v L', Φ v L' → ∃ L'', Gives L' L'' ∧ Ψ v L'') : Fn P f args L Ψ := fun W w hh =>
  (h W w hh).mono fun e w' ⟨v, L1, he, hΦ, hs⟩ => let ⟨L2, g, hΨ⟩ := k v L1 hΦ; ⟨v, L2, he, hΨ, hs.gives g⟩

/-! ### Code -/
theorem T_skip (h : Q .normal s) : T r n P .skip s Q := fun W a w hh => wpIn_skip ⟨s, h, hh⟩
theorem T_ret (h : Q .ret s) : T r n P .ret s Q := fun W a w hh => wpIn_ret ⟨s, h, hh⟩
theorem T_exit {id : Nat} (h : Q (.exit id) s) : T r n P (.exit id) s Q := fun W a w hh => wpIn_exit ⟨s, h, hh⟩
/-- On behind x: K; out of it: Q. -/
def thenS (K : St → Prop) (Q : Exit → St → Prop) : Exit → St → Prop
  | .normal, s => K s
  | e, s => Q e s
theorem T_seq {x y : Code} (h : T r n P x s (thenS (fun s' => T r n P y s' Q) Q)) : T r n P (.seq x y) s Q := fun W a w hh => by
  refine wpIn_seq (wpIn_mono (h W a w hh) ?_)
  rintro e a' w' ⟨s', q, k⟩
  cases e <;> simp only [thenS, Exit.then] at q ⊢
  case normal => exact q W a' w' k
  all_goals exact ⟨s', q, k⟩
theorem T_seq_skip {y : Code} (h : T r n P y s Q) : T r n P (.seq .skip y) s Q := T_seq (T_skip h)
def inB (id : Nat) (Q : Exit → St → Prop) : Exit → St → Prop
  | .exit i, s => if i = id then Q .normal s else Q (.exit i) s
  | e, s => Q e s
theorem T_block {id : Nat} {c : Code} (h : T r n P c s (inB id Q)) : T r n P (.block id c) s Q := fun W a w hh => by
  refine wpIn_block (wpIn_mono (h W a w hh) ?_)
  rintro e a' w' ⟨s', q, k⟩
  cases e with
  | exit i =>
    simp only [inB, Exit.inBlock] at q ⊢
    split
    · rename_i e; rw [if_pos e] at q; exact ⟨s', q, k⟩
    · rename_i e; rw [if_neg e] at q; exact ⟨s', q, k⟩
  | _ => exact ⟨s', q, k⟩
theorem T_cond {c : Operand} {x y : Code} {b : Bool} (hc : ev E c = some (.bool b)) (ht : b = true → T r n P x ⟨D, E, L⟩ Q) (hf : b = false → T r n P y ⟨D, E, L⟩ Q) : T r n P (.cond c x y) ⟨D, E, L⟩ Q := fun W a w hh =>
  wpIn_cond_split (hh.1.ev hc) (fun e => ht e W a w hh) (fun e => hf e W a w hh)
theorem T_if {c : Operand} {x y : Code} {p : Prop} [Decidable p] (hc : ev E c = some (.bool (decide p))) (ht : p → T r n P x ⟨D, E, L⟩ Q) (hf : ¬ p → T r n P y ⟨D, E, L⟩ Q) : T r n P (.cond c x y) ⟨D, E, L⟩ Q :=
  T_cond hc (fun e => ht (of_decide_eq_true e)) (fun e => hf (of_decide_eq_false e))
theorem T_cond_true {c : Operand} {x y : Code} (hc : ev E c = some (.bool true)) (ht : T r n P x ⟨D, E, L⟩ Q) : T r n P (.cond c x y) ⟨D, E, L⟩ Q := T_cond hc (fun _ => ht) (fun e => by cases e)
theorem T_cond_false {c : Operand} {x y : Code} (hc : ev E c = some (.bool false)) (ht : T r n P y ⟨D, E, L⟩ Q) : T r n P (.cond c x y) ⟨D, E, L⟩ Q := T_cond hc (fun e => by cases e) (fun _ => ht)
theorem T_cond_pos {c : Operand} {x y : Code} {b : Bool} (hc : ev E c = some (.bool b)) (hb : b = true) (ht : T r n P x ⟨D, E, L⟩ Q) : T r n P (.cond c x y) ⟨D, E, L⟩ Q := T_cond hc (fun _ => ht) (fun e => by rw [hb] at e; cases e)
theorem T_cond_neg {c : Operand} {x y : Code} {b : Bool} (hc : ev E c = some (.bool b)) (hb : b = false) (ht : T r n P y ⟨D, E, L⟩ Q) : T r n P (.cond c x y) ⟨D, E, L⟩ Q := T_cond hc (fun e => by rw [hb] at e; cases e) (fun _ => ht)
theorem T_if_pos {c : Operand} {x y : Code} {p : Prop} [Decidable p] (hc : ev E c = some (.bool (decide p))) (hp : p) (ht : T r n P x ⟨D, E, L⟩ Q) : T r n P (.cond c x y) ⟨D, E, L⟩ Q := T_if hc (fun _ => ht) (fun e => absurd hp e)
theorem T_if_neg {c : Operand} {x y : Code} {p : Prop} [Decidable p] (hc : ev E c = some (.bool (decide p))) (hp : ¬ p) (ht : T r n P y ⟨D, E, L⟩ Q) : T r n P (.cond c x y) ⟨D, E, L⟩ Q := T_if hc (fun e => absurd e hp) (fun _ => ht)

/-- A loop: σ tells the state at its head. -/
theorem T_loop {c : Code} {σ : Type} (I : σ → Prop) (S : σ → St) (μ : σ → Nat) (x0 : σ) (h0 : I x0) (hs : ∀ W a w, Holds n W s a w → Holds n W (S x0) a w)
    (round : ∀ x, I x → T r n P c (S x) (thenS (fun s' => ∃ y, I y ∧ μ y < μ x ∧ ∀ W a w, Holds n W s' a w → Holds n W (S y) a w) Q)) : T r n P (.loop c) s Q := fun W a w hh => by
  have key : ∀ m x, μ x = m → I x → ∀ a w, Holds n W (S x) a w → ∀ (b : Frame) (k : List Item) (cs : List Frame), b.roundOf = (Fw r).round → (Fw r).fn b.fn → (Fw r).room (cs.length + 1 + 0) →
      ∃ e a' w', (∃ s', Q e s' ∧ Holds n W s' a' w') ∧ ArrivesIn (Machine.fenced P (Fw r)) P (lone (b.atR a (.code c :: .inLoop c :: k)) cs w) b k cs e a' w' := by
    intro m
    induction m using Nat.strongRecOn with
    | _ m ih =>
      intro x hm hI a w hx b k cs hro hb hr
      obtain ⟨e, a₁, w₁, ⟨s', q, hk⟩, harr⟩ := round x hI W a w hx b (.inLoop c :: k) cs hro hb hr
      cases e with
      | normal =>
        simp only [thenS] at q
        obtain ⟨y, hy, hlt, hS⟩ := q
        obtain ⟨e₂, a₂, w₂, hq₂, harr₂⟩ := ih (μ y) (hm ▸ hlt) y rfl hy a₁ w₁ (hS W a₁ w₁ hk) b k cs hro hb hr
        exact ⟨e₂, a₂, w₂, hq₂, ArrivesIn.of_steps (StepsIn.trans harr (.one (fenced_calm hb hr rfl) stepR_inLoop)) harr₂⟩
      | exit id => exact ⟨_, a₁, w₁, ⟨s', q, hk⟩, .pass (x := .inLoop c) rfl (fun _ _ => .inl (by simp)) harr⟩
      | goto l => exact ⟨_, a₁, w₁, ⟨s', q, hk⟩, .pass (x := .inLoop c) rfl (fun _ _ => .inl (by simp)) harr⟩
      | ret => exact ⟨_, a₁, w₁, ⟨s', q, hk⟩, .pass (x := .inLoop c) rfl (fun _ _ => .inl (by simp)) harr⟩
      | panic ch => exact ⟨_, a₁, w₁, ⟨s', q, hk⟩, .pass (x := .inLoop c) rfl (fun _ _ => .inl (by simp)) harr⟩
      | outgrown => exact ⟨_, a₁, w₁, ⟨s', q, hk⟩, .pass (x := .inLoop c) rfl (fun _ _ => .inl (by simp)) harr⟩
  intro b k cs hro hb hr
  obtain ⟨e, a', w', hq, harr⟩ := key _ x0 rfl h0 a w (hs W a w hh) b k cs hro hb hr
  exact ⟨e, a', w', hq, ArrivesIn.of_steps (.one (fenced_calm hb hr rfl) stepR_loop) harr⟩
end
end Go.SL
