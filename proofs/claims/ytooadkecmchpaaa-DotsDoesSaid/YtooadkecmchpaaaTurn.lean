/- Lists: taken from the end, turned. Nothing in this text is about one program. -/
import Derived.Test.YtooadkecmchpaaaSlU
set_option linter.unusedVariables false
namespace Go.SL
def idxG (n k j : Nat) : Nat := n - 1 - (j + k) % n
def turnG {α : Type} (ys : List α) (k : Nat) (i : Nat) : List α := (List.range i).filterMap fun j => ys[idxG ys.length k j]?
theorem turnG_succ {α : Type} {ys : List α} {k i : Nat} {x : α} (h : ys[idxG ys.length k i]? = some x) : turnG ys k (i + 1) = turnG ys k i ++ [x] := by
  simp [turnG, List.range_succ, List.filterMap_append, h]
theorem turnG_perm {α : Type} (ys : List α) {k : Nat} (hk : k < ys.length) : (turnG ys k ys.length).Perm ys := by
  have hp : ((List.range ys.length).map (idxG ys.length k)).Perm (List.range ys.length) := by
    refine (List.perm_ext_iff_of_nodup ?_ List.nodup_range).2 fun j => ?_
    · refine List.pairwise_map.2 (List.nodup_range.imp_of_mem fun {a b} ha hb hne e => hne ?_)
      rw [List.mem_range] at ha hb
      unfold idxG at e
      have h1 := Nat.mod_lt (a + k) (show 0 < ys.length by omega)
      have h2 := Nat.mod_lt (b + k) (show 0 < ys.length by omega)
      have e2 : (a + k) % ys.length = (b + k) % ys.length := by omega
      rcases Nat.lt_or_ge (a + k) ys.length with g1 | g1 <;> rcases Nat.lt_or_ge (b + k) ys.length with g2 | g2
      · rw [Nat.mod_eq_of_lt g1, Nat.mod_eq_of_lt g2] at e2; omega
      · rw [Nat.mod_eq_of_lt g1, Nat.mod_eq_sub_mod g2, Nat.mod_eq_of_lt (by omega)] at e2; omega
      · rw [Nat.mod_eq_of_lt g2, Nat.mod_eq_sub_mod g1, Nat.mod_eq_of_lt (by omega)] at e2; omega
      · rw [Nat.mod_eq_sub_mod g2, Nat.mod_eq_sub_mod g1, Nat.mod_eq_of_lt (by omega), Nat.mod_eq_of_lt (by omega)] at e2; omega
    · simp only [List.mem_map, List.mem_range]
      constructor
      · rintro ⟨i, _, rfl⟩; unfold idxG; omega
      · intro hj
        refine ⟨(ys.length - 1 - j + (ys.length - k)) % ys.length, Nat.mod_lt _ (by omega), ?_⟩
        unfold idxG
        rw [Nat.mod_add_mod, show ys.length - 1 - j + (ys.length - k) + k = ys.length - 1 - j + ys.length by omega, Nat.add_mod_right, Nat.mod_eq_of_lt (by omega)]
        omega
  have h2 := hp.filterMap (fun j => ys[j]?)
  rw [List.filterMap_map] at h2
  have h3 : (List.range ys.length).filterMap (fun j => ys[j]?) = ys := by
    have e1 : (List.range ys.length).map (fun j => ys[j]?) = ys.map some := by
      apply List.ext_getElem?
      intro i
      by_cases hi : i < ys.length
      · simp [hi]
      · simp [hi]
    have e2 := congrArg (List.filterMap id) e1
    simpa [List.filterMap_map, Function.comp_def] using e2
  rw [h3] at h2
  exact h2
end Go.SL
