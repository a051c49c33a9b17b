/- The library's Compact of numbers that rise, as a contract of this logic. -/
import Derived.Test.YtibejpgjgkeheaaSortA
import Derived.Ground.Names2Prog
import Derived.Shelf.Slices.CompactI
set_option linter.unusedVariables false
set_option linter.unusedSimpArgs false
namespace Go.Proofs
open Go.Shelf
shelf_lay Lays2.n20 Nm2 20 at Try as Try.lays2n20
end Go.Proofs
namespace Go.SL
open Go Go.Proofs
theorem compact_upto {zs : List Int} (h : zs.Pairwise (fun x y => x ≤ y)) : ∀ m, m ≤ zs.length → (Go.Lib.compactUpTo zs.toArray m).Pairwise (fun x y => x < y) ∧ ∀ x, x ∈ Go.Lib.compactUpTo zs.toArray m ↔ x ∈ zs.take m
  | 0, _ => by simp [Go.Lib.compactUpTo]
  | m + 1, hm => by
    obtain ⟨h1, h2⟩ := compact_upto h m (by omega)
    have hz : zs[m]? = some zs[m] := List.getElem?_eq_getElem (by omega)
    have hz! : zs.toArray[m]! = zs[m] := by simp [show m < zs.length by omega]
    have hle : ∀ x ∈ zs.take m, ∀ j (hj : m ≤ j + 1) (hj2 : j < zs.length), x ≤ zs[j] := fun x hx j hj hj2 => by
      obtain ⟨i, hi⟩ := List.getElem?_of_mem hx
      have hil := (List.getElem?_eq_some_iff.1 hi).1
      rw [List.length_take] at hil
      rw [List.getElem?_take_of_lt (by omega)] at hi
      obtain ⟨hi1, hi2⟩ := List.getElem?_eq_some_iff.1 hi
      rcases Nat.lt_or_ge i j with hlt | hge
      · rw [← hi2]; exact List.pairwise_iff_getElem.1 h i j hi1 hj2 hlt
      · have : i = j := by omega
        subst this; rw [hi2]; exact Int.le_refl _
    rw [Go.Lib.compactUpTo_succ, List.take_add_one, hz, hz!]
    by_cases hk : Go.Lib.keeps zs.toArray m = true
    · rw [if_pos hk]
      have hlt : ∀ x ∈ zs.take m, x < zs[m] := fun x hx => by
        have a1 := hle x hx m (by omega) (by omega)
        have hm0 : m ≠ 0 := by rintro rfl; simp at hx
        have a2 := hle x hx (m - 1) (by omega) (by omega)
        have a3 : zs[m] ≠ zs[m - 1] := by
          have := of_decide_eq_true (show decide (m = 0 ∨ zs.toArray[m]! ≠ zs.toArray[m - 1]!) = true from hk)
          rcases this with h0 | h0
          · exact absurd h0 hm0
          · rw [hz!] at h0
            have e : zs.toArray[m - 1]! = zs[m - 1] := by simp [show m - 1 < zs.length by omega]
            rw [e] at h0; exact h0
        have a4 := List.pairwise_iff_getElem.1 h (m - 1) m (by omega) (by omega) (by omega)
        omega
      refine ⟨List.pairwise_append.2 ⟨h1, List.pairwise_singleton _ _, fun x hx y hy => ?_⟩, fun x => ?_⟩
      · rw [List.mem_singleton.1 hy]; exact hlt x ((h2 x).1 hx)
      · rw [List.mem_append, List.mem_append, h2]; simp
    · rw [if_neg hk, List.append_nil]
      refine ⟨h1, fun x => ?_⟩
      rw [h2, List.mem_append]
      refine ⟨.inl, fun hx => ?_⟩
      rcases hx with hx | hx
      · exact hx
      · have hx2 : x = zs[m] := by simpa using hx
        have hk2 : ¬ (m = 0 ∨ zs.toArray[m]! ≠ zs.toArray[m - 1]!) := fun h0 => hk (decide_eq_true h0)
        have hm0 : m ≠ 0 := fun e => hk2 (.inl e)
        have e : zs.toArray[m - 1]! = zs[m - 1] := by simp [show m - 1 < zs.length by omega]
        have he : zs[m] = zs[m - 1] := Classical.byContradiction fun h0 => hk2 (.inr (by rw [hz!, e]; exact h0))
        rw [hx2, he]
        exact List.mem_of_getElem? (i := m - 1) (by rw [List.getElem?_take_of_lt (by omega)]; exact List.getElem?_eq_getElem (by omega))
theorem compact_sorted {zs : List Int} (h : zs.Pairwise (fun x y => x ≤ y)) : (Go.Lib.compact zs).Pairwise (fun x y => x < y) ∧ (∀ x, x ∈ Go.Lib.compact zs ↔ x ∈ zs) ∧ (Go.Lib.compact zs).length ≤ zs.length := by
  obtain ⟨h1, h2⟩ := compact_upto h zs.length (Nat.le_refl _)
  rw [List.take_of_length_le (Nat.le_refl _)] at h2
  refine ⟨h1, h2, ?_⟩
  unfold Go.Lib.compact Go.Lib.compactUpTo
  rw [List.length_map]
  exact Nat.le_trans (List.length_filter_le _ _) (by simp)
theorem compact_spec {L : List HP} {A : Option Addr} {c : Nat} {xs : List Int} (hb : xs.length ≤ 9223372036854775807) (hsrt : xs.Pairwise (fun x y => x ≤ y)) : Fn Try.prog 55 #[.slice A xs.length c] (osl (intR .i64) 3 A c xs :: L) (fun v L' => ∃ ys, v = .slice A ys.length c ∧ L' = osl (intR .i64) 3 A c ys :: L ∧ ys.Pairwise (fun x y => x < y) ∧ ∀ x, x ∈ ys ↔ x ∈ xs) := fun o w hs => by
  obtain ⟨hc1, hc2, hc3⟩ := compact_sorted hsrt
  by_cases h0 : xs = []
  · subst h0
    refine (Any.slices_Compact_int_empty Try.lays2n20 A c w).mono ?_
    rintro e w' ⟨rfl, rfl⟩
    exact ⟨_, _, rfl, ⟨[], rfl, rfl, List.Pairwise.nil, fun x => Iff.rfl⟩, hs⟩
  obtain ⟨M, k, hd, hM, hk, h1, h2, hd', l1, l2, hp, hsep⟩ := hs.ex
  rcases hp.2 with ⟨rfl, h⟩ | ⟨g, cur, rfl, hg, hsz, hl, hc, hx⟩
  · exact absurd h h0
  · have hbw : w.heap[g]? = some (.cells cur 3 (0, 0)) := hk _ _ (l1 _ _ hg)
    have hcur : ∀ i x, xs[i]? = some x → cur[i]? = some (Value.int .i64 x) ∧ intIn .i64 x := fun i x hi => by
      obtain ⟨l, ⟨rfl, hk2⟩, h⟩ := hx i x hi
      have := h 0 _ rfl
      exact ⟨by simpa [intR] using this, hk2⟩
    have hin : ∀ x ∈ xs, intIn .i64 x := fun x hx => by
      obtain ⟨i, hi⟩ := List.getElem?_of_mem hx
      exact (hcur i x hi).2
    have hH : Go.Sort.Holds (Value.int .i64) w g 0 xs.toArray := fun j hj => by
      have hj' : j < xs.length := by simpa using hj
      refine ⟨?_, by simp [World.frozen?, hbw]⟩
      rw [Nat.zero_add, cell_of hbw, (hcur j _ (List.getElem?_eq_getElem hj')).1]
      simp [hj']
    have hone : Sat o w (own g (.cells cur 3 (0, 0)) :: L) := ⟨⟨M, k, hd, hM, hk, h1, h2, hd', l1, l2, hg, hsep⟩, hs.os, hs.tape, hs.output, hs.size⟩
    refine (Any.slices_Compact_int Try.lays2n20 g 0 c xs w hH hb hl).mono ?_
    rintro e w' ⟨rfl, n, rfl⟩
    generalize hzs : Go.Lib.compact xs ++ List.replicate (xs.length - (Go.Lib.compact xs).length) 0 = zs
    have hzl : zs.length = xs.length := by rw [← hzs, List.length_append, List.length_replicate]; omega
    have hput : Sat o (Go.Sort.putRow (Value.int .i64) (Go.Sort.ahead w n) g 0 zs.toArray) (own g (.cells (Go.Sort.putCells (Value.int .i64) 0 zs.toArray cur) 3 (0, 0)) :: L) := by
      refine (hone.ahead n).set ?_ ?_ rfl rfl rfl ?_
      · show ((Go.Sort.ahead w n).heap.modify g (Go.Sort.onCells _))[g]? = _
        rw [Array.getElem?_modify, if_pos rfl, show (Go.Sort.ahead w n).heap[g]? = w.heap[g]? from rfl, hbw]; rfl
      · intro i hi
        show ((Go.Sort.ahead w n).heap.modify g (Go.Sort.onCells _))[i]? = _
        rw [Array.getElem?_modify, if_neg (Ne.symm hi)]
      · show _ ≤ ((Go.Sort.ahead w n).heap.modify g (Go.Sort.onCells _)).size
        simp
    refine ⟨_, _, rfl, ⟨Go.Lib.compact xs, rfl, rfl, hc1, hc2⟩, hput.gives fun N m ⟨a1, a2, ad, m1, m2, ha, hs'⟩ => ⟨a1, a2, ad, m1, m2, ⟨Nat.le_trans hc3 hp.1, .inr ⟨g, _, rfl, ha, ?_, Nat.le_trans hc3 hl, hc, fun i x hi => ?_⟩⟩, hs'⟩⟩
    · simp [Go.Sort.putCells, hsz]
    · have hm := List.mem_of_getElem? hi
      have hil : i < (Go.Lib.compact xs).length := (List.getElem?_eq_some_iff.1 hi).1
      refine ⟨[.int .i64 x], ⟨rfl, hin x ((hc2 x).1 hm)⟩, fun j v hj => ?_⟩
      have hj0 : j = 0 := by
        have := (List.getElem?_eq_some_iff.1 hj).1
        simp at this; exact this
      subst hj0
      simp at hj
      subst hj
      have hic : i < cur.size := by rw [hsz]; simp [intR]; omega
      have hzi : zs[i]? = some x := by rw [← hzs, List.getElem?_append_left hil]; exact hi
      have hil2 : i < zs.length := (List.getElem?_eq_some_iff.1 hzi).1
      have hx2 : zs[i] = x := by
        have := hzi; rw [List.getElem?_eq_getElem hil2] at this; exact Option.some.inj this
      simp [Go.Sort.putCells, intR, Array.getElem?_mapIdx, hil2, hx2, Array.getElem?_eq_getElem hic]
end Go.SL
