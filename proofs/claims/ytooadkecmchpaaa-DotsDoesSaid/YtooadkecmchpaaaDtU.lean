/- Dots: the document's vector and what is missing, plainly. -/
import Derived.Test.YtooadkecmchpaaaDtR
set_option linter.unusedVariables false
set_option linter.unusedSimpArgs false
namespace Go.SL
open Go
section
variable {α : Type} {l : List (DotD × α)}
theorem DI.pre {i : Nat} (h : DI l) : DI (l.take i) := ⟨h.inc.sublist (List.take_sublist _ _), Nat.le_trans (by rw [List.length_take]; omega) h.len, fun p hp => h.may p (List.mem_of_mem_take hp)⟩
theorem pfxK_snoc {ks : List Int} {k : Int} {n : Nat} (hs : (ks ++ [k]).Pairwise (fun x y => x < y)) (hn : ∀ q ∈ ks ++ [k], (n : Int) ≤ q) : pfxK n (ks ++ [k]) = if k = (pfxK n ks : Int) then pfxK n ks + 1 else pfxK n ks := by
  obtain ⟨s1, _, s3⟩ := List.pairwise_append.1 hs
  obtain ⟨q1, q2, q3, q4⟩ := pfxK_spec s1 (fun q hq => hn q (List.mem_append_left _ hq))
  by_cases e : k = (pfxK n ks : Int)
  · rw [if_pos e]
    refine pfxK_eq hs hn (by omega) (fun j h1 h2 => ?_) (fun hm => ?_)
    · rcases Nat.lt_or_eq_of_le (Nat.le_of_lt_succ h2) with h | h
      · exact List.mem_append_left _ (q3 j h1 h)
      · subst h; exact List.mem_append_right _ (by simp [e])
    · rcases List.mem_append.1 hm with h | h
      · have := s3 _ h k (by simp); omega
      · simp at h; omega
  · rw [if_neg e]
    refine pfxK_eq hs hn q1 (fun j h1 h2 => List.mem_append_left _ (q3 j h1 h2)) (fun hm => ?_)
    rcases List.mem_append.1 hm with h | h
    · exact q4 h
    · simp at h; exact e h.symm
theorem keysO_snoc (l : List (DotD × α)) (u : DotD × α) (o : Int) : keysO (l ++ [u]) o = keysO l o ++ if u.1.1 = o then [u.1.2] else [] := by
  unfold keysO
  rw [atO_append, List.map_append, atO_cons]
  by_cases h : u.1.1 = o <;> simp [h, atO]
theorem vecO_snoc {u : DotD × α} (h : DI (l ++ [u])) (o : Int) : vecO (l ++ [u]) o = if u.1.1 = o ∧ u.1.2 = (vecO l o : Int) + 1 then vecO l o + 1 else vecO l o := by
  have hl : DI l := by have := h.pre (i := l.length); rwa [List.take_left] at this
  have h1 := h.keys o
  have h2 := h.keys_pos o
  have h3 := (pfxK_spec (hl.keys o) (hl.keys_pos o)).1
  unfold vecO
  rw [keysO_snoc] at h1 h2 ⊢
  by_cases ho : u.1.1 = o
  · rw [if_pos ho] at h1 h2 ⊢
    rw [pfxK_snoc h1 h2]
    by_cases e : u.1.2 = (pfxK 1 (keysO l o) : Int)
    · rw [if_pos e, if_pos ⟨ho, by omega⟩]; omega
    · rw [if_neg e, if_neg (by omega)]
  · rw [if_neg ho, List.append_nil, if_neg (by omega)]
end
/-! ### Missing -/
section
variable {α : Type} {l : List (DotD × α)}
theorem miss_all (hi : DI l) (v : List Int) : (betL [] v).filter (fun d => !decide (hasD l d)) = (betL (vecL l) v).filter (fun d => !decide (hasD l d)) := by
  refine sorted_ext ((betL_sorted _ _).filter _) ((betL_sorted _ _).filter _) fun d => ?_
  simp only [List.mem_filter, mem_betL]
  constructor
  · rintro ⟨⟨o, h1, h2, h3, h4⟩, h5⟩
    refine ⟨⟨o, h1, h2, ?_, h4⟩, h5⟩
    have hn : ¬ hasD l d := by simpa using h5
    have h0 : ofV [] (o : Int) = 0 := by unfold ofV; split <;> simp
    rw [h0] at h3
    by_cases h7 : o < 7
    · rw [ofV_vecL h7]
      refine Classical.byContradiction fun hc => hn ?_
      have := hi.vec_has (o := (o : Int)) (j := d.2) (by omega) (by omega)
      rwa [show ((o : Int), d.2) = d from Prod.ext h2.symm rfl] at this
    · rw [ofV_out (.inr (by rw [vecL_len]; omega))]; omega
  · rintro ⟨⟨o, h1, h2, h3, h4⟩, h5⟩
    refine ⟨⟨o, h1, h2, ?_, h4⟩, h5⟩
    have h0 : ofV [] (o : Int) = 0 := by unfold ofV; split <;> simp
    rw [h0]; omega
theorem has_count (hi : DI l) (v : List Int) : ((betL [] v).filter fun d => decide (hasD l d)).length ≤ l.length := by
  have e : (betL [] v).filter (fun d => decide (hasD l d)) = (l.map (·.1)).filter (fun d => decide (d ∈ betL [] v)) := by
    refine sorted_ext ((betL_sorted _ _).filter _) ((List.pairwise_map.2 hi.inc).filter _) fun d => ?_
    simp only [List.mem_filter, List.mem_map, decide_eq_true_eq, hasD_iff]
    exact ⟨fun ⟨a, b⟩ => ⟨b, a⟩, fun ⟨a, b⟩ => ⟨b, a⟩⟩
  rw [e]
  exact Nat.le_trans (List.length_filter_le _ _) (by simp)
theorem filter_two {β : Type} (p : β → Bool) (xs : List β) : (xs.filter p).length + (xs.filter fun x => !p x).length = xs.length := by
  induction xs with
  | nil => rfl
  | cons x xs ih =>
    rw [List.filter_cons, List.filter_cons, List.length_cons]
    by_cases h : p x = true
    · simp [h]; omega
    · simp [h]; omega
theorem miss_doc (hi : DI l) (v : List Int) : (((betL [] v).take (l.length + 4096)).filter fun d => !decide (hasD l d)).take 4096 = missD l v := by
  unfold missD
  rw [← miss_all hi]
  generalize hx : betL [] v = xs
  have hc : (xs.filter fun d => decide (hasD l d)).length ≤ l.length := by rw [← hx]; exact has_count hi v
  by_cases hl : xs.length ≤ l.length + 4096
  · rw [List.take_of_length_le hl]
  · have h1 : xs = xs.take (l.length + 4096) ++ xs.drop (l.length + 4096) := (List.take_append_drop _ _).symm
    have h2 := filter_two (fun d => decide (hasD l d)) (xs.take (l.length + 4096))
    have h3 : ((xs.take (l.length + 4096)).filter fun d => decide (hasD l d)).length ≤ (xs.filter fun d => decide (hasD l d)).length := ((List.take_sublist _ _).filter _).length_le
    rw [List.length_take] at h2
    conv => rhs; rw [h1]
    rw [List.filter_append, List.take_append_of_le_length (by omega)]
end
theorem take_more {β : Type} {a b : List β} {j m : Nat} (h : m ≤ (a ++ b.take j).length) : (a ++ b.take j).take m = (a ++ b).take m := by
  rw [List.length_append, List.length_take] at h
  by_cases ha : m ≤ a.length
  · rw [List.take_append_of_le_length ha, List.take_append_of_le_length ha]
  · rw [List.take_append, List.take_append, List.take_take, Nat.min_eq_left (by omega)]
theorem take_snoc {β : Type} {xs : List β} {x : β} {m : Nat} (h : (xs.take m).length < m) : xs.take m ++ [x] = (xs ++ [x]).take m := by
  rw [List.length_take] at h
  rw [List.take_of_length_le (by omega), List.take_of_length_le (by simp; omega)]
end Go.SL
