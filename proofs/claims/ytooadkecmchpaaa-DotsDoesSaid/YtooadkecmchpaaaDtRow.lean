/- Dots: how dots and pairs among the arguments are read. -/
import Derived.Test.YtooadkecmchpaaaDtP
import Derived.Test.YtooadkecmchpaaaBri
set_option linter.unusedVariables false
namespace Go.SL
open Go Go.Proofs
theorem cells_di : Try.prog.cellsOf 3 = 1 := by kernel_rfl
theorem cells_ds : Try.prog.cellsOf 9 = 1 := by kernel_rfl
theorem cells_dot : Try.prog.cellsOf 31 = 2 := by kernel_rfl
theorem cells_pair : Try.prog.cellsOf 33 = 3 := by kernel_rfl
set_option maxRecDepth 100000 in
theorem reads_dot : Reads Try.prog 31 dotR (fun _ => True) (fun _ => 1) := fun H enc W held fuel cs d ps h hw => by
  obtain ⟨ds, n, rfl, hl, _, hf⟩ := reads_fields Try.underlying31 h hw
  rw [cells_dot] at hl
  match cs, hl with
  | [u, v], _ =>
  obtain ⟨d0, p0, _, h0, w0⟩ := hf 0 _ rfl
  obtain ⟨d1, p1, _, h1, w1⟩ := hf 1 _ rfl
  obtain ⟨x, ⟨e0, i0⟩, _⟩ := reads_int Try.underlying3 H enc W held n _ d0 p0 h0 w0
  obtain ⟨y, ⟨e1, i1⟩, _⟩ := reads_int Try.underlying3 H enc W held n _ d1 p1 h1 w1
  simp [cells_di] at e0 e1
  subst e0; subst e1
  exact ⟨(x, y), ⟨rfl, i0, i1⟩, trivial, fun B => B.one _⟩
set_option maxRecDepth 100000 in
theorem reads_pair : Reads Try.prog 33 pairR (fun _ => True) (fun p => p.2.size + 1) := fun H enc W held fuel cs d ps h hw => by
  obtain ⟨ds, n, rfl, hl, hdl, hf⟩ := reads_fields Try.underlying33 h hw
  rw [cells_pair] at hl
  match cs, hl with
  | [u, v, w], _ =>
  obtain ⟨d0, p0, g0, h0, w0⟩ := hf 0 _ rfl
  obtain ⟨d1, p1, g1, h1, w1⟩ := hf 1 _ rfl
  obtain ⟨x, ⟨e0, i0, j0⟩, _, m0⟩ := reads_dot H enc W held n _ d0 p0 h0 w0
  obtain ⟨y, ⟨e1, i1⟩, _, m1⟩ := reads_str Try.underlying9 H enc W held n _ d1 p1 h1 w1
  simp [cells_dot] at e0
  simp [cells_ds] at e1
  obtain ⟨rfl, rfl⟩ := e0
  subst e1
  refine ⟨(x, y), ⟨rfl, ⟨i0, j0⟩, i1⟩, trivial, fun B => ?_⟩
  refine Nat.le_trans ?_ (B.agg ds)
  match ds, hdl with
  | [a0, a1], _ =>
  simp at g0 g1
  subst g0; subst g1
  have q1 : y.size + 1 ≤ B.f a1 := m1 B
  simp only [List.map_cons, List.map_nil, List.sum_cons, List.sum_nil]
  show y.size + 1 ≤ _
  omega
end Go.SL
