/- The walk of the law on votes that come. -/
import Derived.Test.YtibejpgjgkeheaaBalG
import Derived.Test.YtibejpgjgkeheaaSlK
set_option linter.unusedVariables false
set_option linter.unusedSimpArgs false
namespace Go.SL
open Go Go.Proofs
theorem allTo_add {bs : List Bool} {n u : Int} (hb : bs.length = 7) (hn : n ≤ 7) (hu : isV n u) (hh : ¬ hasV bs n u) : ∀ k : Nat, (allTo (addV bs n u) n k).length = (allTo bs n k).length + (if u.toNat < k then 1 else 0)
  | 0 => by simp [allTo]
  | k + 1 => by
    have ih := allTo_add hb hn hu hh k
    have hu1 := hu.1; have hu2 := hu.2
    rw [allTo_succ, allTo_succ, List.length_append, List.length_append, ih]
    have e : addV bs n u = bs.set u.toNat true := by rw [addV, if_pos hu]
    by_cases hk : u.toNat = k
    · have h1 : hasV (addV bs n u) n (k : Int) := ⟨⟨by omega, by omega⟩, by rw [e, Int.toNat_natCast, ← hk, List.getElem?_set_self (by omega)]⟩
      have h2 : ¬ hasV bs n (k : Int) := by rw [← hk, show ((u.toNat : Nat) : Int) = u by omega]; exact hh
      rw [if_pos h1, if_neg h2, if_neg (by omega), if_pos (by omega)]; simp
    · have h3 : hasV (addV bs n u) n (k : Int) ↔ hasV bs n (k : Int) := by
        unfold hasV; rw [e, Int.toNat_natCast, List.getElem?_set_ne hk]
      by_cases h4 : hasV bs n (k : Int)
      · rw [if_pos (h3.2 h4), if_pos h4]; by_cases h5 : u.toNat < k <;> simp [h5] <;> omega
      · rw [if_neg (fun h => h4 (h3.1 h)), if_neg h4]; by_cases h5 : u.toNat < k <;> simp [h5] <;> omega
theorem addV_same {bs : List Bool} {n u : Int} (h : ¬ (isV n u ∧ ¬ hasV bs n u)) : addV bs n u = bs := by
  unfold addV
  split
  · rename_i hu
    exact set_self (Classical.byContradiction fun hh => h ⟨hu, fun k => hh k.2⟩)
  · rfl
theorem allV_add {bs : List Bool} {n u : Int} (hb : bs.length = 7) (hn : n ≤ 7) : (allV (addV bs n u) n).length = (allV bs n).length + (if isV n u ∧ ¬ hasV bs n u then 1 else 0) := by
  split
  · rename_i h
    have h1 := h.1.1; have h2 := h.1.2
    rw [allV, allTo_add hb hn h.1 h.2, if_pos (by omega)]; rfl
  · rename_i h
    rw [addV_same h]; rfl
theorem allTo_pre (bs : List Bool) (n : Int) (k : Nat) : ∀ j, ∃ t, allTo bs n (k + j) = allTo bs n k ++ t
  | 0 => ⟨[], by simp⟩
  | j + 1 => by
    obtain ⟨t, ht⟩ := allTo_pre bs n k j
    exact ⟨t ++ (if hasV bs n ((k + j : Nat) : Int) then [((k + j : Nat) : Int)] else []), by rw [← Nat.add_assoc, allTo_succ, ht, List.append_assoc]⟩
theorem allTo_full (bs : List Bool) (n : Nat) : ∀ j, allTo bs n (n + j) = allTo bs n n
  | 0 => rfl
  | j + 1 => by
    rw [← Nat.add_assoc, allTo_succ, allTo_full bs n j, if_neg (fun h => by have := h.1.2; omega)]; simp
theorem allV_full (bs : List Bool) (n : Nat) (h : n ≤ 7) : allV bs n = allTo bs n n := by
  have := allTo_full bs n (7 - n)
  rwa [show n + (7 - n) = 7 by omega] at this
theorem allV_at {bs : List Bool} {n i : Nat} (hn : n ≤ 7) (hi : i < n) (h : hasV bs n (i : Int)) : (allV bs n)[(allTo bs n i).length]? = some (i : Int) := by
  obtain ⟨t, ht⟩ := allTo_pre bs n (i + 1) (7 - (i + 1))
  rw [show i + 1 + (7 - (i + 1)) = 7 by omega, show allTo bs n (i + 1) = _ from allTo_succ bs n i, if_pos h] at ht
  rw [allV, ht]; simp
theorem take_has {bs : List Bool} {n j : Nat} {u : Bool} (h : (bs.take n)[j]? = some u) : bs[j]? = some u := by
  rw [List.getElem?_take] at h
  split at h
  · exact h
  · cases h
theorem take_addV {bs : List Bool} {n : Nat} {u : Int} (h : isV n u) : (bs.take n).set u.toNat true = (addV bs n u).take n := by
  rw [addV, if_pos h, List.take_set]

end Go.SL
