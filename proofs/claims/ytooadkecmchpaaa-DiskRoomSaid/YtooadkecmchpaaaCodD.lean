/- Codec: the walks of the number readers. -/
import Derived.Test.YtooadkecmchpaaaCodC
set_option linter.unusedVariables false
set_option linter.unusedSimpArgs false
namespace Go.SL
open Go Go.Proofs

theorem high_next {bs : List Int} {i : Nat} {u : Int} (h : High (bs.take i)) (hu : bs[i]? = some u) (h1 : 128 ≤ u) (h2 : u ≤ 255) : High (bs.take (i + 1)) := by
  intro d hd
  rw [List.take_add_one, hu] at hd
  rcases List.mem_append.1 hd with hd | hd
  · exact h d hd
  · simp at hd; omega

theorem wrap_u64 (x : Int) : ∃ y : Nat, IntKind.u64.wrap x = (y : Int) ∧ y < 18446744073709551616 := by
  refine ⟨(IntKind.u64.wrap x).toNat, ?_, ?_⟩ <;> simp [IntKind.wrap, IntKind.bits, IntKind.signed] <;> omega
theorem rdU_same {bs : List Int} {i a2 : Nat} (hil : i < bs.length) (h : grp a2 = bs.take (i + 1)) (hlt : a2 < 18446744073709551616) : RdU bs a2 (i + 1) 0 := .inl ⟨rfl, hlt, h.symm, by rw [h]; simp; omega, by omega⟩
theorem rdU_unlike {bs : List Int} {i a2 : Nat} {u : Int} (hH : High (bs.take i)) (hu : bs[i]? = some u) (h0 : 0 ≤ u) (h1 : u < 128) (hi : i ≤ 9) (hv : (i = 9 → u ≤ 1) → a2 = val (bs.take (i + 1))) (hne : ¬ grp a2 = bs.take (i + 1)) : RdU bs 0 0 10 := by
  by_cases h9 : i = 9 → u ≤ 1
  · refine .inr ⟨rfl, rfl, rfl, fun y hy hp => hne ?_⟩
    obtain ⟨ds, g1, g2, g3, g4, g5⟩ := grp_at hp hH hu h1
    have e : bs.take (i + 1) = grp y := by
      obtain ⟨t, ht⟩ := hp
      rw [← ht, List.take_append_of_le_length (by rw [g1]; simp; omega), List.take_of_length_le (by rw [g1]; simp; omega)]
    have : a2 = y := by rw [hv h9, e, val_grp]
    rw [this, e]
  · have e : i = 9 := by omega
    subst e
    exact rdU_big hH hu (by omega) (by omega)
end Go.SL
