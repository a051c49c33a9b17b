/- Lists: where an item is put. Nothing in this text is about one program. -/
import Derived.Test.YtibejpgjgkeheaaSlM
set_option linter.unusedVariables false
namespace Go.SL
theorem tm_two (a : Int) {n : Int} (hn : 0 < n) : a.tmod n = a % n ∨ a.tmod n = a % n - n := by
  rw [Int.tmod_eq_emod]
  split
  · left; omega
  · right; omega
theorem tm_bound (a : Int) {n : Int} (hn : 0 < n) : -n < a.tmod n ∧ a.tmod n < n := by
  have h1 := Int.emod_nonneg a (by omega : n ≠ 0)
  have h2 := Int.emod_lt_of_pos a hn
  rw [Int.tmod_eq_emod]
  split
  · omega
  · rename_i h
    have h3 : a % n ≠ 0 := fun e => h (.inr (Int.dvd_of_emod_eq_zero e))
    omega
theorem at_idx (a : Int) {n : Int} (hn : 0 < n) : (a.tmod n + n).tmod n = a % n := by
  have h1 := Int.emod_nonneg a (by omega : n ≠ 0)
  have h2 := Int.emod_lt_of_pos a hn
  rcases tm_two a hn with h | h
  · rw [h, Int.tmod_eq_emod_of_nonneg (by omega), Int.add_emod_right, Int.emod_eq_of_lt h1 h2]
  · rw [h, show a % n - n + n = a % n by omega, Int.tmod_eq_emod_of_nonneg h1, Int.emod_eq_of_lt h1 h2]
section
variable {α : Type} {p : α → Bool} {l : List α} {x : α}
/-- How many of the first items p holds of. -/
def posW (p : α → Bool) : List α → Nat
  | [] => 0
  | x :: r => if p x then posW p r + 1 else 0
def insW (p : α → Bool) (x : α) (l : List α) : List α := l.take (posW p l) ++ x :: l.drop (posW p l)
theorem posW_le : ∀ l : List α, posW p l ≤ l.length
  | [] => Nat.le_refl _
  | x :: r => by
    have := posW_le r
    unfold posW; split <;> simp <;> omega
theorem posW_eq : ∀ {l : List α} {k : Nat}, k ≤ l.length → (∀ q ∈ l.take k, p q = true) → (∀ q, l[k]? = some q → p q = false) → posW p l = k
  | [], k, hk, _, _ => by simp at hk; simp [posW, hk]
  | x :: r, 0, _, _, h2 => by
    have := h2 x rfl
    simp [posW, this]
  | x :: r, k + 1, hk, h1, h2 => by
    have hx := h1 x (by simp)
    have := posW_eq (l := r) (k := k) (by simpa using hk) (fun q hq => h1 q (by simp [hq])) (fun q hq => h2 q (by simpa using hq))
    simp [posW, hx, this]
theorem posW_take : ∀ l : List α, ∀ q ∈ l.take (posW p l), p q = true
  | [], q, hq => by simp at hq
  | x :: r, q, hq => by
    cases hx : p x with
    | false => simp [posW, hx] at hq
    | true =>
      simp [posW, hx] at hq
      rcases hq with rfl | hq
      · exact hx
      · exact posW_take r q hq
theorem posW_drop {r : α → α → Prop} : ∀ {l : List α}, l.Pairwise r → (∀ a ∈ l, ∀ b ∈ l, r a b → p b = true → p a = true) → ∀ q ∈ l.drop (posW p l), p q = false
  | [], _, _, q, hq => by simp at hq
  | x :: t, hs, hm, q, hq => by
    cases hx : p x with
    | true =>
      simp [posW, hx] at hq
      exact posW_drop (List.pairwise_cons.1 hs).2 (fun a ha b hb => hm a (List.mem_cons_of_mem _ ha) b (List.mem_cons_of_mem _ hb)) q hq
    | false =>
      simp [posW, hx] at hq
      rcases hq with rfl | hq
      · exact hx
      · cases hpq : p q with
        | false => rfl
        | true => rw [hm x List.mem_cons_self q (List.mem_cons_of_mem _ hq) ((List.pairwise_cons.1 hs).1 q hq) hpq] at hx; cases hx
theorem insW_perm (p : α → Bool) (x : α) (l : List α) : (insW p x l).Perm (x :: l) := by
  unfold insW
  refine List.perm_middle.trans (List.Perm.cons _ ?_)
  rw [List.take_append_drop]
theorem insW_len (p : α → Bool) (x : α) (l : List α) : (insW p x l).length = l.length + 1 := (insW_perm p x l).length_eq
theorem mem_insW {q : α} : q ∈ insW p x l ↔ q = x ∨ q ∈ l := by rw [(insW_perm p x l).mem_iff]; simp
theorem insW_sorted {r : α → α → Prop} (hs : l.Pairwise r) (h1 : ∀ q ∈ l, p q = true → r q x) (h2 : ∀ q ∈ l, p q = false → r x q) (hm : ∀ a ∈ l, ∀ b ∈ l, r a b → p b = true → p a = true) : (insW p x l).Pairwise r := by
  unfold insW
  have e := List.take_append_drop (posW p l) l
  have hs' := hs
  rw [← e] at hs'
  obtain ⟨q1, q2, q3⟩ := List.pairwise_append.1 hs'
  refine List.pairwise_append.2 ⟨q1, List.pairwise_cons.2 ⟨fun q hq => h2 q (List.mem_of_mem_drop hq) (posW_drop hs hm q hq), q2⟩, fun a ha b hb => ?_⟩
  rcases List.mem_cons.1 hb with rfl | hb
  · exact h1 a (List.mem_of_mem_take ha) (posW_take l a ha)
  · exact q3 a ha b hb
end
theorem takeStep {α : Type} {xs ys : List α} {i : Nat} {x y : α} (h : xs.take i = ys.take i) (hx : xs[i]? = some x) (hy : ys[i]? = some y) (e : x = y) : xs.take (i + 1) = ys.take (i + 1) := by
  rw [List.take_add_one, List.take_add_one, h, hx, hy, e]
theorem takeAll {α : Type} {xs ys : List α} {i : Nat} (h : xs.take i = ys.take i) (h1 : xs.length ≤ i) (h2 : ys.length ≤ i) : xs = ys := by
  rwa [List.take_of_length_le h1, List.take_of_length_le h2] at h
theorem takeAt {α : Type} {l : List α} {i : Nat} {s : α} (h : l[i]? = some s) : l.take (i + 1) = l.take i ++ [s] := by rw [List.take_add_one, h]; rfl
end Go.SL
