/- The library's sort of texts, as a contract of this logic. -/
import Derived.Test.YtooadkecmchpaaaSortA
import Derived.Sort.Walk0
set_option linter.unusedVariables false
set_option linter.unusedSimpArgs false
namespace Go.Proofs
open Go.Shelf
shelf_lay Lays.n190 Nm 190 at Try as Try.lays190
end Go.Proofs
namespace Go.SL
open Go Go.Proofs
def dataL (s : ByteArray) : List UInt8 := s.data.toList
def undata (l : List UInt8) : ByteArray := ⟨l.toArray⟩
theorem undata_data (s : ByteArray) : undata (dataL s) = s := by cases s; simp [undata, dataL]
def srtL (ss : List (List UInt8)) : List (List UInt8) := ss.mergeSort fun x y => decide (x ≤ y)
def srtS (xs : List ByteArray) : List ByteArray := (srtL (xs.map dataL)).map undata
theorem srtS_perm (xs : List ByteArray) : (srtS xs).Perm xs := by
  have := (List.mergeSort_perm (xs.map dataL) fun x y => decide (x ≤ y)).map undata
  rw [List.map_map, show undata ∘ dataL = id from funext undata_data, List.map_id] at this
  exact this
theorem srtS_length (xs : List ByteArray) : (srtS xs).length = xs.length := (srtS_perm xs).length_eq
theorem srtS_of {xs ys : List ByteArray} (h : xs.Perm ys) (hy : ys.Pairwise fun x y => dataL x < dataL y) : srtS xs = ys := by
  have h1 : (srtL (xs.map dataL)).Perm (ys.map dataL) := (List.mergeSort_perm _ _).trans (h.map _)
  have h2 : (srtL (xs.map dataL)).Pairwise (fun x y => x ≤ y) := by
    have := List.pairwise_mergeSort (le := fun x y : List UInt8 => decide (x ≤ y)) (fun a b c h1 h2 => by simp at h1 h2 ⊢; exact List.le_trans h1 h2) (fun a b => by simp; exact List.le_total a b) (xs.map dataL)
    exact this.imp fun h => by simpa using h
  have h3 : srtL (xs.map dataL) = ys.map dataL := h1.eq_of_pairwise (fun a b _ _ h1 h2 => List.le_antisymm h1 h2) h2 (List.pairwise_map.2 (hy.imp fun h => List.le_of_lt h))
  unfold srtS
  rw [h3, List.map_map, show undata ∘ dataL = id from funext undata_data, List.map_id]
theorem sortS_spec {L : List HP} {A : Option Addr} {c : Nat} {xs : List ByteArray} (hb : xs.length < 4611686018427387904) : Fn Try.prog 111 #[.slice A xs.length c] (osl strR 9 A c xs :: L) (fun v L' => v = .tuple #[] ∧ L' = osl strR 9 A c (srtS xs) :: L) := fun o w hs => by
  obtain ⟨M, k, hd, hM, hk, h1, h2, hd', l1, l2, hp, hsep⟩ := hs.ex
  rcases hp.2 with ⟨rfl, rfl⟩ | ⟨g, cur, rfl, hg, hsz, hl, hc, hx⟩
  · refine (Any.slices_Sort_string_none Try.lays190 A 0 w).mono ?_
    rintro e w' ⟨rfl, rfl⟩
    exact ⟨_, _, rfl, ⟨rfl, rfl⟩, by rw [show srtS [] = [] by simp [srtS, srtL]]; exact hs⟩
  · have hbw : w.heap[g]? = some (.cells cur 9 (0, 0)) := hk _ _ (l1 _ _ hg)
    have hlt : g < w.heap.size := (Array.getElem?_eq_some_iff.1 hbw).1
    have hcur : ∀ i x, xs[i]? = some x → cur[i]? = some (Value.string x) ∧ x.size ≤ maxEl := fun i x hi => by
      obtain ⟨l, ⟨rfl, hk2⟩, h⟩ := hx i x hi
      have := h 0 _ rfl
      exact ⟨by simpa [strR] using this, hk2⟩
    have hin : ∀ x ∈ xs, x.size ≤ maxEl := fun x hx => by
      obtain ⟨i, hi⟩ := List.getElem?_of_mem hx
      exact (hcur i x hi).2
    have henc : ∀ x : ByteArray, Go.Proofs.encStr (dataL x) = Value.string x := fun x => by cases x; simp [Go.Proofs.encStr, dataL]
    have hH : Go.Sort.Holds Go.Proofs.encStr w g 0 (xs.map dataL).toArray := fun j hj => by
      have hj' : j < xs.length := by simpa using hj
      refine ⟨?_, by simp [World.frozen?, hbw]⟩
      rw [Nat.zero_add, cell_of hbw, (hcur j _ (List.getElem?_eq_getElem hj')).1]
      simp [hj', henc]
    have hone : Sat o w (own g (.cells cur 9 (0, 0)) :: L) := ⟨⟨M, k, hd, hM, hk, h1, h2, hd', l1, l2, hg, hsep⟩, hs.os, hs.tape, hs.output, hs.size⟩
    have hkit := Any.slices_Sort_string Try.lays190 g 0 c (xs.map dataL) w hH hlt (by simpa using hb)
    rw [List.length_map] at hkit
    refine hkit.mono ?_
    rintro e w' ⟨rfl, n, os, rfl⟩
    have hput : Sat o (Go.Sort.putRow Go.Proofs.encStr (Go.Sort.ahead w n) g 0 (srtL (xs.map dataL)).toArray) (own g (.cells (Go.Sort.putCells Go.Proofs.encStr 0 (srtL (xs.map dataL)).toArray cur) 9 (0, 0)) :: L) := by
      refine (hone.ahead n).set ?_ ?_ rfl rfl rfl ?_
      · show ((Go.Sort.ahead w n).heap.modify g (Go.Sort.onCells _))[g]? = _
        rw [Array.getElem?_modify, if_pos rfl, show (Go.Sort.ahead w n).heap[g]? = w.heap[g]? from rfl, hbw]; rfl
      · intro i hi
        show ((Go.Sort.ahead w n).heap.modify g (Go.Sort.onCells _))[i]? = _
        rw [Array.getElem?_modify, if_neg (Ne.symm hi)]
      · show _ ≤ ((Go.Sort.ahead w n).heap.modify g (Go.Sort.onCells _)).size
        simp
    refine ⟨_, _, rfl, ⟨rfl, rfl⟩, (hput.grow os).gives fun N m ⟨a1, a2, ad, m1, m2, ha, hs'⟩ => ⟨a1, a2, ad, m1, m2, ⟨by rw [srtS_length]; exact hp.1, .inr ⟨g, _, rfl, ha, ?_, by rw [srtS_length]; exact hl, hc, fun i x hi => ?_⟩⟩, hs'⟩⟩
    · simp [Go.Sort.putCells, hsz]
    · have hm := List.mem_of_getElem? hi
      have hil : i < (srtS xs).length := (List.getElem?_eq_some_iff.1 hi).1
      refine ⟨[.string x], ⟨rfl, hin x ((srtS_perm xs).mem_iff.1 hm)⟩, fun j v hj => ?_⟩
      have hj0 : j = 0 := by
        have := (List.getElem?_eq_some_iff.1 hj).1
        simp at this; exact this
      subst hj0
      simp at hj
      subst hj
      have hic : i < cur.size := by rw [hsz]; rw [srtS_length] at hil; simp [strR]; omega
      have hil2 : i < (srtL (xs.map dataL)).length := by unfold srtS at hil; rwa [List.length_map] at hil
      have hx2 : undata (srtL (xs.map dataL))[i] = x := by
        have := hi; unfold srtS at this; rw [List.getElem?_map, List.getElem?_eq_getElem hil2] at this; exact Option.some.inj this
      have he2 : Go.Proofs.encStr (srtL (xs.map dataL))[i] = Value.string x := by rw [← hx2]; simp [Go.Proofs.encStr, undata]
      simp [Go.Sort.putCells, strR, Array.getElem?_mapIdx, hil2, he2, Array.getElem?_eq_getElem hic]
end Go.SL
