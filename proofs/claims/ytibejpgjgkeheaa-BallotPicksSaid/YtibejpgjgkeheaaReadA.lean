/- How records among the arguments are read: seals, entries. -/
import Derived.Test.YtibejpgjgkeheaaVoted
import Derived.Test.YtibejpgjgkeheaaSlN
import Derived.Test.YtibejpgjgkeheaaBri
set_option linter.unusedVariables false
namespace Go.SL
open Go Go.Proofs
theorem cells_i : Try.prog.cellsOf 3 = 1 := by kernel_rfl
theorem cells_b : Try.prog.cellsOf 4 = 1 := by kernel_rfl
theorem cells_s : Try.prog.cellsOf 9 = 1 := by kernel_rfl
theorem cells_li : Try.prog.cellsOf 23 = 1 := by kernel_rfl
theorem cells_seal : Try.prog.cellsOf 25 = 4 := by kernel_rfl
theorem cells_entry : Try.prog.cellsOf 27 = 5 := by kernel_rfl
theorem bytes_i : Try.prog.bytesOf 3 = 8 := by kernel_rfl
theorem sl_of {α : Type} {R : Rep α} {A : Option Addr} {c : Nat} {xs : List α} {M h : Mem} (k : Sep [sl R A c xs] M h) : sliceAt M R A c xs := let ⟨_, _, _, _, _, hp, _⟩ := k; hp
theorem sl_to {α : Type} {R : Rep α} {A : Option Addr} {c : Nat} {xs : List α} {M : Mem} (k : sliceAt M R A c xs) : Sep [sl R A c xs] M Mem.emp := ⟨Mem.emp, Mem.emp, Mem.emp_disj _, Mem.le_refl _, Mem.le_refl _, k, trivial⟩
theorem reads_ints : Reads Try.prog 23 (sliceR (intR .i64)) (fun xs => xs.length * 8 ≤ 140737488351232) (fun xs => xs.length + 1) := fun H enc W held fuel cs d ps h hw => by
  obtain ⟨xs, h1, h2, h3⟩ := reads_slice Try.underlying23 (R := intR .i64) (by kernel_rfl) (by decide) (by rw [bytes_i]; decide) (reads_int Try.underlying3) H enc W held fuel cs d ps h hw
  rw [bytes_i] at h2
  refine ⟨xs, h1, h2.1, fun B => Nat.le_trans ?_ (h3 B)⟩
  have q : xs.length ≤ (xs.map fun _ : Int => 1).sum := sum_ge (μ := fun _ : Int => 1) (fun _ => Nat.le_refl _) xs
  exact Nat.succ_le_succ q
def μSeal (x : OrderD) : Nat := x.token.size + x.cart.size + x.cut.length + 5
set_option maxRecDepth 100000 in
theorem reads_seal : Reads Try.prog 25 orderR (fun _ => True) μSeal := fun H enc W held fuel cs d ps h hw => by
  obtain ⟨ds, n, rfl, hl, hdl, hf⟩ := reads_fields Try.underlying25 h hw
  rw [cells_seal] at hl
  match cs, hl with
  | [u0, u1, u2, u3], _ =>
  obtain ⟨d0, p0, g0, h0, w0⟩ := hf 0 _ rfl
  obtain ⟨d1, p1, g1, h1, w1⟩ := hf 1 _ rfl
  obtain ⟨d2, p2, g2, h2, w2⟩ := hf 2 _ rfl
  obtain ⟨d3, p3, g3, h3, w3⟩ := hf 3 _ rfl
  obtain ⟨x0, ⟨e0, i0⟩, _, m0⟩ := reads_str Try.underlying9 H enc W held n _ d0 p0 h0 w0
  obtain ⟨x1, ⟨e1, i1⟩, _, m1⟩ := reads_str Try.underlying9 H enc W held n _ d1 p1 h1 w1
  obtain ⟨x2, ⟨e2, i2⟩, _, m2⟩ := reads_int Try.underlying3 H enc W held n _ d2 p2 h2 w2
  obtain ⟨x3, ⟨A, c, e3, i3⟩, k3, m3⟩ := reads_ints H enc W held n _ d3 p3 h3 w3
  simp [cells_s] at e0 e1
  simp [cells_i] at e2
  simp [cells_li] at e3
  subst e0; subst e1; subst e2; subst e3
  refine ⟨⟨x0, x1, x2, x3⟩, ⟨(A, c), rfl, sl_to i3, i0, i1, i2, by show x3.length ≤ _; omega⟩, trivial, fun B => ?_⟩
  refine Nat.le_trans ?_ (B.agg ds)
  match ds, hdl with
  | [a0, a1, a2, a3], _ =>
  simp at g0 g1 g2 g3
  subst g0; subst g1; subst g2; subst g3
  have q0 : x0.size + 1 ≤ B.f a0 := m0 B
  have q1 : x1.size + 1 ≤ B.f a1 := m1 B
  have q2 : 1 ≤ B.f a2 := m2 B
  have q3 : x3.length + 1 ≤ B.f a3 := m3 B
  simp only [List.map_cons, List.map_nil, List.sum_cons, List.sum_nil]
  show x0.size + x1.size + x3.length + 5 ≤ _
  omega
def μEntry (e : EntryD) : Nat := μSeal e.order + 2
set_option maxRecDepth 100000 in
theorem reads_entry : Reads Try.prog 27 entryR (fun _ => True) μEntry := fun H enc W held fuel cs d ps h hw => by
  obtain ⟨ds, n, rfl, hl, hdl, hf⟩ := reads_fields Try.underlying27 h hw
  rw [cells_entry] at hl
  match cs, hl with
  | [u0, u1, u2, u3, u4], _ =>
  obtain ⟨d0, p0, g0, h0, w0⟩ := hf 0 _ rfl
  obtain ⟨d1, p1, g1, h1, w1⟩ := hf 1 _ rfl
  obtain ⟨x0, e0, _, m0⟩ := reads_bool Try.underlying4 H enc W held n _ d0 p0 h0 w0
  obtain ⟨x1, ⟨p, e1, hs, ok⟩, _, m1⟩ := reads_seal H enc W held n _ d1 p1 h1 w1
  simp [cells_b, boolR] at e0
  simp [cells_seal] at e1
  obtain ⟨rfl, rfl, rfl, rfl⟩ := e1
  subst e0
  refine ⟨⟨x0, x1⟩, ⟨p, rfl, hs, ok⟩, trivial, fun B => ?_⟩
  refine Nat.le_trans ?_ (B.agg ds)
  match ds, hdl with
  | [a0, a1], _ =>
  simp at g0 g1
  subst g0; subst g1
  have q0 : 1 ≤ B.f a0 := m0 B
  have q1 : μSeal x1 ≤ B.f a1 := m1 B
  simp only [List.map_cons, List.map_nil, List.sum_cons, List.sum_nil]
  show μSeal x1 + 2 ≤ _
  omega
end Go.SL
