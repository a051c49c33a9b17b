/- The library's sort of numbers, as a contract of this logic. -/
import Derived.Test.YtibejpgjgkeheaaSlN
import Derived.Test.YtibejpgjgkeheaaSlT
import Derived.Ground.NamesProg
import Derived.Shelf.Lay
import Derived.Shelf.Sort.Plain
import Derived.Shelf.Slices.In.SortNone
set_option linter.unusedVariables false
set_option linter.unusedSimpArgs false
namespace Go.Proofs
open Go.Shelf
shelf_lay Lays.n189 Nm 189 at Try as Try.lays189
end Go.Proofs
namespace Go.SL
open Go Go.Proofs
def srt (xs : List Int) : List Int := xs.mergeSort fun x y => decide (x ≤ y)
theorem srt_perm (xs : List Int) : (srt xs).Perm xs := List.mergeSort_perm xs _
theorem srt_length (xs : List Int) : (srt xs).length = xs.length := (srt_perm xs).length_eq
theorem srt_sorted (xs : List Int) : (srt xs).Pairwise (fun x y => x ≤ y) := by
  have := List.pairwise_mergeSort (le := fun x y : Int => decide (x ≤ y)) (fun a b c h1 h2 => by simp at h1 h2 ⊢; omega) (fun a b => by simp; omega) xs
  exact this.imp fun h => by simpa using h
theorem srt_of {xs ys : List Int} (h : xs.Perm ys) (hy : ys.Pairwise (fun x y => x < y)) : srt xs = ys := by
  have h1 : (srt xs).Perm ys := (srt_perm xs).trans h
  exact h1.eq_of_pairwise (fun a b _ _ h1 h2 => by omega) (srt_sorted xs) (hy.imp fun h => by omega)
theorem Sat.ahead {o w : World} {L : List HP} (h : Sat o w L) (n : Nat) : Sat o (Go.Sort.ahead w n) L := ⟨h.ex, h.os, h.tape, h.output, h.size⟩
theorem Sat.grow {o w : World} {L : List HP} (h : Sat o w L) (xs : Array Obj) : Sat o (Go.Sort.grow w xs) L := by
  obtain ⟨M, k, hd, hM, hk, hs⟩ := h.ex
  have hle : (heapOf w).le (heapOf (Go.Sort.grow w xs)) := fun b x hb => by
    have hlt := (Array.getElem?_eq_some_iff.1 (show w.heap[b]? = some x from hb)).1
    show (Go.Sort.grow w xs).heap[b]? = some x
    rw [Go.Sort.heap_grow_old w xs hlt]; exact hb
  exact ⟨⟨M, k, hd, Mem.le_trans hM hle, Mem.le_trans hk hle, hs⟩, h.os, h.tape, h.output, Nat.le_trans h.size (by simp [Go.Sort.grow])⟩
theorem sort_spec {L : List HP} {A : Option Addr} {c : Nat} {xs : List Int} (hb : xs.length < 4611686018427387904) : Fn Try.prog 54 #[.slice A xs.length c] (osl (intR .i64) 3 A c xs :: L) (fun v L' => v = .tuple #[] ∧ L' = osl (intR .i64) 3 A c (srt xs) :: L) := fun o w hs => by
  obtain ⟨M, k, hd, hM, hk, h1, h2, hd', l1, l2, hp, hsep⟩ := hs.ex
  rcases hp.2 with ⟨rfl, rfl⟩ | ⟨g, cur, rfl, hg, hsz, hl, hc, hx⟩
  · refine (Any.slices_Sort_int_none Try.lays189 A 0 w).mono ?_
    rintro e w' ⟨rfl, rfl⟩
    exact ⟨_, _, rfl, ⟨rfl, rfl⟩, by rw [show srt [] = [] by simp [srt]]; exact hs⟩
  · have hbw : w.heap[g]? = some (.cells cur 3 (0, 0)) := hk _ _ (l1 _ _ hg)
    have hlt : g < w.heap.size := (Array.getElem?_eq_some_iff.1 hbw).1
    have hcur : ∀ i x, xs[i]? = some x → cur[i]? = some (Value.int .i64 x) ∧ intIn .i64 x := fun i x hi => by
      obtain ⟨l, ⟨rfl, hk2⟩, h⟩ := hx i x hi
      have := h 0 _ rfl
      exact ⟨by simpa [intR] using this, hk2⟩
    have hin : ∀ x ∈ xs, intIn .i64 x := fun x hx => by
      obtain ⟨i, hi⟩ := List.getElem?_of_mem hx
      exact (hcur i x hi).2
    have hH : Go.Sort.Holds (Value.int .i64) w g 0 xs.toArray := fun j hj => by
      have hj' : j < xs.length := by simpa using hj
      refine ⟨?_, by simp [World.frozen?, hbw]⟩
      rw [Nat.zero_add, cell_of hbw, (hcur j _ (List.getElem?_eq_getElem hj')).1]
      simp [hj']
    have hone : Sat o w (own g (.cells cur 3 (0, 0)) :: L) := ⟨⟨M, k, hd, hM, hk, h1, h2, hd', l1, l2, hg, hsep⟩, hs.os, hs.tape, hs.output, hs.size⟩
    refine (Any.slices_Sort_int Try.lays189 g 0 c xs w hH hlt hb).mono ?_
    rintro e w' ⟨rfl, n, os, rfl⟩
    have hput : Sat o (Go.Sort.putRow (Value.int .i64) (Go.Sort.ahead w n) g 0 (srt xs).toArray) (own g (.cells (Go.Sort.putCells (Value.int .i64) 0 (srt xs).toArray cur) 3 (0, 0)) :: L) := by
      refine (hone.ahead n).set ?_ ?_ rfl rfl rfl ?_
      · show ((Go.Sort.ahead w n).heap.modify g (Go.Sort.onCells _))[g]? = _
        rw [Array.getElem?_modify, if_pos rfl, show (Go.Sort.ahead w n).heap[g]? = w.heap[g]? from rfl, hbw]; rfl
      · intro i hi
        show ((Go.Sort.ahead w n).heap.modify g (Go.Sort.onCells _))[i]? = _
        rw [Array.getElem?_modify, if_neg (Ne.symm hi)]
      · show _ ≤ ((Go.Sort.ahead w n).heap.modify g (Go.Sort.onCells _)).size
        simp
    refine ⟨_, _, rfl, ⟨rfl, rfl⟩, (hput.grow os).gives fun N m ⟨a1, a2, ad, m1, m2, ha, hs'⟩ => ⟨a1, a2, ad, m1, m2, ⟨by rw [srt_length]; exact hp.1, .inr ⟨g, _, rfl, ha, ?_, by rw [srt_length]; exact hl, hc, fun i x hi => ?_⟩⟩, hs'⟩⟩
    · simp [Go.Sort.putCells, hsz]
    · have hm := List.mem_of_getElem? hi
      have hil : i < (srt xs).length := (List.getElem?_eq_some_iff.1 hi).1
      refine ⟨[.int .i64 x], ⟨rfl, hin x ((srt_perm xs).mem_iff.1 hm)⟩, fun j v hj => ?_⟩
      have hj0 : j = 0 := by
        have := (List.getElem?_eq_some_iff.1 hj).1
        simp at this; exact this
      subst hj0
      simp at hj
      subst hj
      have hic : i < cur.size := by rw [hsz]; rw [srt_length] at hil; simp [intR]; omega
      have hx2 : (srt xs)[i] = x := by
        have := hi; rw [List.getElem?_eq_getElem hil] at this; exact Option.some.inj this
      simp [Go.Sort.putCells, intR, Array.getElem?_mapIdx, hil, hx2, Array.getElem?_eq_getElem hic]
end Go.SL
