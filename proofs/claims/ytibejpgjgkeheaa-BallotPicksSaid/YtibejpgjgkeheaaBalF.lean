/- The walks of the laws on nil votes and on majorities that meet. -/
import Derived.Test.YtibejpgjgkeheaaBalE
set_option linter.unusedVariables false
set_option linter.unusedSimpArgs false
namespace Go.SL
open Go Go.Proofs
theorem newVotes_bad {n : Int} (h : ¬ (1 ≤ n ∧ n ≤ 7)) (L : List HP) : Fn Try.prog 56 #[.int .i64 n] L (fun v L' => v = .tuple #[.pointer none, .int .i64 1] ∧ L' = L) := (newVotes_spec n L).cases_ fun v L' k => by
  rcases k with ⟨_, k⟩ | ⟨k, _⟩
  · exact k
  · exact absurd k h
theorem newVotes_ok {n : Int} (h : 1 ≤ n ∧ n ≤ 7) (L : List HP) : Fn Try.prog 56 #[.int .i64 n] L (fun v L' => ∃ b, v = .tuple #[.pointer (some ⟨b, 0, none⟩), .int .i64 0] ∧ L' = votes b (List.replicate 7 false) n :: L) := (newVotes_spec n L).cases_ fun v L' k => by
  rcases k with ⟨k, _⟩ | ⟨_, k⟩
  · exact absurd h k
  · exact k
def addL (bs : List Bool) (n : Int) (l : List Int) : List Bool := l.foldl (fun bs x => addV bs n x) bs
theorem addL_len {n : Int} : ∀ {l : List Int} {bs : List Bool}, bs.length = 7 → (addL bs n l).length = 7
  | [], bs, h => h
  | x :: l, bs, h => addL_len (l := l) (addV_len h)
theorem addL_next {bs : List Bool} {n u : Int} {l : List Int} {i : Nat} (h : l[i]? = some u) : addL bs n (l.take (i + 1)) = addV (addL bs n (l.take i)) n u := by
  rw [List.take_add_one, h]
  simp [addL, List.foldl_append]
theorem count_two {α : Type} {p q s : α → Bool} (h1 : ∀ x, p x = true → s x = true) (h2 : ∀ x, q x = true → s x = true) (h3 : ∀ x, ¬ (p x = true ∧ q x = true)) : ∀ l : List α, (l.filter p).length + (l.filter q).length ≤ (l.filter s).length
  | [] => by simp
  | x :: l => by
    have ih := count_two h1 h2 h3 l
    have a1 := h1 x; have a2 := h2 x; have a3 := h3 x
    simp only [List.filter_cons]
    cases hp : p x <;> cases hq : q x <;> cases hs : s x <;> simp_all <;> omega
theorem allV_disj {bs cs : List Bool} {n : Int} (hn : 1 ≤ n ∧ n ≤ 7) (h : ∀ j : Nat, (j : Int) < n → ¬ (hasV bs n (j : Int) ∧ hasV cs n (j : Int))) : ((allV bs n).length : Int) + ((allV cs n).length : Int) ≤ n := by
  have k := count_two (p := fun i : Nat => decide (hasV bs n (i : Int))) (q := fun i : Nat => decide (hasV cs n (i : Int))) (s := fun i : Nat => decide ((i : Int) < n))
    (fun x hx => decide_eq_true (of_decide_eq_true hx).1.2) (fun x hx => decide_eq_true (of_decide_eq_true hx).1.2)
    (fun x ⟨hx, hy⟩ => h x (of_decide_eq_true hx).1.2 ⟨of_decide_eq_true hx, of_decide_eq_true hy⟩) (List.range 7)
  have e : ((List.range 7).filter fun i : Nat => decide ((i : Int) < n)).length = n.toNat := by
    have : n = 1 ∨ n = 2 ∨ n = 3 ∨ n = 4 ∨ n = 5 ∨ n = 6 ∨ n = 7 := by omega
    rcases this with rfl | rfl | rfl | rfl | rfl | rfl | rfl <;> decide
  rw [e] at k
  simp only [allV, allTo, List.length_map]
  omega
end Go.SL
