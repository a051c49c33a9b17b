/- Net: how operations among the arguments are read. -/
import Derived.Test.YtfmkfpgplpfkhaaNetF
import Derived.Test.YtfmkfpgplpfkhaaBri
set_option linter.unusedVariables false
namespace Go.SL
open Go Go.Proofs
theorem cells_oi : Try.prog.cellsOf 3 = 1 := by kernel_rfl
theorem cells_os : Try.prog.cellsOf 9 = 1 := by kernel_rfl
theorem cells_op : Try.prog.cellsOf 32 = 5 := by kernel_rfl
def μOp (o : OpD) : Nat := o.body.size + 6
set_option maxRecDepth 100000 in
theorem reads_op : Reads Try.prog 32 opR (fun _ => True) μOp := fun H enc W held fuel cs d ps h hw => by
  obtain ⟨ds, n, rfl, hl, hdl, hf⟩ := reads_fields Try.underlying32 h hw
  rw [cells_op] at hl
  match cs, hl with
  | [u0, u1, u2, u3, u4], _ =>
  obtain ⟨d0, p0, g0, h0, w0⟩ := hf 0 _ rfl
  obtain ⟨d1, p1, g1, h1, w1⟩ := hf 1 _ rfl
  obtain ⟨d2, p2, g2, h2, w2⟩ := hf 2 _ rfl
  obtain ⟨d3, p3, g3, h3, w3⟩ := hf 3 _ rfl
  obtain ⟨d4, p4, g4, h4, w4⟩ := hf 4 _ rfl
  obtain ⟨x0, ⟨e0, i0⟩, _, m0⟩ := reads_int Try.underlying3 H enc W held n _ d0 p0 h0 w0
  obtain ⟨x1, ⟨e1, i1⟩, _, m1⟩ := reads_int Try.underlying3 H enc W held n _ d1 p1 h1 w1
  obtain ⟨x2, ⟨e2, i2⟩, _, m2⟩ := reads_int Try.underlying3 H enc W held n _ d2 p2 h2 w2
  obtain ⟨x3, ⟨e3, i3⟩, _, m3⟩ := reads_int Try.underlying3 H enc W held n _ d3 p3 h3 w3
  obtain ⟨x4, ⟨e4, i4⟩, _, m4⟩ := reads_str Try.underlying9 H enc W held n _ d4 p4 h4 w4
  simp [cells_oi] at e0 e1 e2 e3
  simp [cells_os] at e4
  subst e0; subst e1; subst e2; subst e3; subst e4
  refine ⟨⟨x0, x1, x2, x3, x4⟩, ⟨rfl, i0, i1, i2, i3, i4⟩, trivial, fun B => ?_⟩
  refine Nat.le_trans ?_ (B.agg ds)
  match ds, hdl with
  | [a0, a1, a2, a3, a4], _ =>
  simp at g0 g1 g2 g3 g4
  subst g0; subst g1; subst g2; subst g3; subst g4
  have q0 : 1 ≤ B.f a0 := m0 B
  have q1 : 1 ≤ B.f a1 := m1 B
  have q2 : 1 ≤ B.f a2 := m2 B
  have q3 : 1 ≤ B.f a3 := m3 B
  have q4 : x4.size + 1 ≤ B.f a4 := m4 B
  simp only [List.map_cons, List.map_nil, List.sum_cons, List.sum_nil]
  show x4.size + 6 ≤ _
  omega
end Go.SL
