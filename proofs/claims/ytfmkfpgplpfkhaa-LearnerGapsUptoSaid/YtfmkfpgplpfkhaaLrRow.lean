/- Learner: how slots among the arguments are read; what the second form's bound gives. -/
import Derived.Test.YtfmkfpgplpfkhaaLrG
import Derived.Test.YtfmkfpgplpfkhaaReadA
set_option linter.unusedVariables false
namespace Go.SL
open Go Go.Proofs
theorem cells_slot : Try.prog.cellsOf 56 = 6 := by kernel_rfl
def μSlot (s : SlotD) : Nat := μEntry s.2 + 2
set_option maxRecDepth 100000 in
theorem reads_slot : Reads Try.prog 56 slotR (fun _ => True) μSlot := fun H enc W held fuel cs d ps h hw => by
  obtain ⟨ds, n, rfl, hl, hdl, hf⟩ := reads_fields Try.underlying56 h hw
  rw [cells_slot] at hl
  match cs, hl with
  | [u0, u1, u2, u3, u4, u5], _ =>
  obtain ⟨d0, p0, g0, h0, w0⟩ := hf 0 _ rfl
  obtain ⟨d1, p1, g1, h1, w1⟩ := hf 1 _ rfl
  obtain ⟨x0, ⟨e0, i0⟩, _, m0⟩ := reads_int Try.underlying3 H enc W held n _ d0 p0 h0 w0
  obtain ⟨x1, ⟨q1, e1, s1, i1⟩, _, m1⟩ := reads_entry H enc W held n _ d1 p1 h1 w1
  simp [cells_i] at e0
  subst e0
  simp [cells_entry] at e1
  obtain ⟨rfl, rfl, rfl, rfl, rfl⟩ := e1
  refine ⟨(x0, x1), ⟨q1, rfl, s1, i0, i1⟩, trivial, fun B => ?_⟩
  refine Nat.le_trans ?_ (B.agg ds)
  match ds, hdl with
  | [a0, a1], _ =>
  simp at g0 g1
  subst g0
  subst g1
  have q0' : 1 ≤ B.f a0 := m0 B
  have q1' : μEntry x1 ≤ B.f a1 := m1 B
  simp only [List.map_cons, List.map_nil, List.sum_cons, List.sum_nil]
  show μEntry x1 + 2 ≤ _
  omega
theorem lsum_mem {α : Type} {μ : α → Nat} : ∀ {l : List α} {x : α}, x ∈ l → μ x ≤ (l.map μ).sum
  | y :: l, x, h => by
    rw [List.map_cons, List.sum_cons]
    rcases List.mem_cons.1 h with rfl | h
    · omega
    · have := lsum_mem (μ := μ) h; omega
theorem slot_limits {l : List SlotD} (h : (l.map μSlot).sum ≤ 1048576) : LLim l := by
  refine ⟨?_, fun e he => ?_⟩
  · have := sum_ge (μ := μSlot) (fun x => by unfold μSlot; omega) l; omega
  · have h1 := Nat.le_trans (lsum_mem (μ := μSlot) he) h
    unfold μSlot μEntry μSeal at h1; unfold cSeal; omega
end Go.SL
