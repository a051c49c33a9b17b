/- Disk: how calls among the arguments are read. -/
import Derived.Test.YtooadkecmchpaaaDkN
import Derived.Test.YtooadkecmchpaaaBri
set_option linter.unusedVariables false
namespace Go.SL
open Go Go.Proofs
theorem cells_ki : Try.prog.cellsOf 3 = 1 := by kernel_rfl
theorem cells_ks : Try.prog.cellsOf 9 = 1 := by kernel_rfl
theorem cells_kb : Try.prog.cellsOf 67 = 1 := by kernel_rfl
theorem cells_kt : Try.prog.cellsOf 68 = 1 := by kernel_rfl
theorem cells_torn : Try.prog.cellsOf 122 = 2 := by kernel_rfl
theorem cells_kop : Try.prog.cellsOf 70 = 6 := by kernel_rfl
theorem bytes_k8 : Try.prog.bytesOf 5 = 1 := by kernel_rfl
theorem bytes_torn : Try.prog.bytesOf 122 = 24 := by kernel_rfl
set_option maxRecDepth 100000 in
theorem reads_torn : Reads Try.prog 122 tornR (fun _ => True) (fun _ => 1) := fun H enc W held fuel cs d ps h hw => by
  obtain ⟨ds, n, rfl, hl, _, hf⟩ := reads_fields Try.underlying122 h hw
  rw [cells_torn] at hl
  match cs, hl with
  | [u, v], _ =>
  obtain ⟨d0, p0, _, h0, w0⟩ := hf 0 _ rfl
  obtain ⟨d1, p1, _, h1, w1⟩ := hf 1 _ rfl
  obtain ⟨x, ⟨e0, i0⟩, _⟩ := reads_str Try.underlying9 H enc W held n _ d0 p0 h0 w0
  obtain ⟨y, ⟨e1, i1⟩, _⟩ := reads_int Try.underlying3 H enc W held n _ d1 p1 h1 w1
  simp [cells_ks] at e0
  simp [cells_ki, cells_ks] at e1
  subst e0; subst e1
  exact ⟨(x, y), ⟨rfl, i0, i1⟩, trivial, fun B => B.one _⟩
theorem reads_bytes : Reads Try.prog 67 (sliceR (intR .u8)) (fun xs => xs.length ≤ 140737488351232) (fun _ => 1) := fun H enc W held fuel cs d ps h hw => by
  obtain ⟨xs, h1, h2, h3⟩ := reads_slice Try.underlying67 (R := intR .u8) (by kernel_rfl) (by decide) (by rw [bytes_k8]; decide) (reads_int Try.underlying5) H enc W held fuel cs d ps h hw
  rw [bytes_k8] at h2
  exact ⟨xs, h1, by have := h2.1; omega, fun B => B.one _⟩
theorem reads_torns : Reads Try.prog 68 (sliceR tornR) (fun xs => xs.length * 24 ≤ 140737488351232) (fun _ => 1) := fun H enc W held fuel cs d ps h hw => by
  obtain ⟨xs, h1, h2, h3⟩ := reads_slice Try.underlying68 (R := tornR) (by kernel_rfl) (by decide) (by rw [bytes_torn]; decide) reads_torn H enc W held fuel cs d ps h hw
  rw [bytes_torn] at h2
  exact ⟨xs, h1, h2.1, fun B => B.one _⟩
theorem sl_consK {α : Type} {R : Rep α} {A : Option Addr} {c : Nat} {xs : List α} {L : List HP} {M : Mem} (k : sliceAt M R A c xs) (h : Sep L M Mem.emp) : Sep (sl R A c xs :: L) M Mem.emp := ⟨Mem.emp, Mem.emp, Mem.emp_disj _, Mem.le_refl _, Mem.le_refl _, k, h⟩
set_option maxRecDepth 100000 in
theorem reads_op : Reads Try.prog 70 opR (fun _ => True) (fun _ => 1) := fun H enc W held fuel cs d ps h hw => by
  obtain ⟨ds, n, rfl, hl, hdl, hf⟩ := reads_fields Try.underlying70 h hw
  rw [cells_kop] at hl
  match cs, hl with
  | [u0, u1, u2, u3, u4, u5], _ =>
  obtain ⟨d0, p0, g0, h0, w0⟩ := hf 0 _ rfl
  obtain ⟨d1, p1, g1, h1, w1⟩ := hf 1 _ rfl
  obtain ⟨d2, p2, g2, h2, w2⟩ := hf 2 _ rfl
  obtain ⟨d3, p3, g3, h3, w3⟩ := hf 3 _ rfl
  obtain ⟨d4, p4, g4, h4, w4⟩ := hf 4 _ rfl
  obtain ⟨d5, p5, g5, h5, w5⟩ := hf 5 _ rfl
  obtain ⟨x0, ⟨e0, i0⟩, _, m0⟩ := reads_int Try.underlying3 H enc W held n _ d0 p0 h0 w0
  obtain ⟨x1, ⟨e1, i1⟩, _, m1⟩ := reads_str Try.underlying9 H enc W held n _ d1 p1 h1 w1
  obtain ⟨x2, ⟨e2, i2⟩, _, m2⟩ := reads_str Try.underlying9 H enc W held n _ d2 p2 h2 w2
  obtain ⟨x3, ⟨A3, c3, e3, i3⟩, k3, m3⟩ := reads_bytes H enc W held n _ d3 p3 h3 w3
  obtain ⟨x4, ⟨e4, i4⟩, _, m4⟩ := reads_int Try.underlying3 H enc W held n _ d4 p4 h4 w4
  obtain ⟨x5, ⟨A5, c5, e5, i5⟩, k5, m5⟩ := reads_torns H enc W held n _ d5 p5 h5 w5
  simp [cells_ki] at e0
  subst e0
  simp [cells_ks] at e1
  subst e1
  simp [cells_ks] at e2
  subst e2
  simp [cells_kb] at e3
  subst e3
  simp [cells_ki] at e4
  subst e4
  simp [cells_kt] at e5
  subst e5
  exact ⟨⟨x0, x1, x2, x3, x4, x5⟩, ⟨((A3, c3), (A5, c5)), rfl, sl_consK i3 (sl_consK i5 trivial), ⟨i0, i1, i2, k3, i4, k5⟩⟩, trivial, fun B => B.one _⟩
end Go.SL
