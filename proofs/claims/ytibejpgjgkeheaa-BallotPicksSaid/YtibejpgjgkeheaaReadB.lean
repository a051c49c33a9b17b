/- How records among the arguments are read: events, votes, messages. -/
import Derived.Test.YtibejpgjgkeheaaReadA
import Derived.Test.YtibejpgjgkeheaaPair
import Derived.Test.YtibejpgjgkeheaaWrC
set_option linter.unusedVariables false
namespace Go.SL
open Go Go.Proofs
def pairR : Rep (Int × Int) := ⟨2, fun _ a cs => cs = [.int .i64 a.1, .int .i64 a.2] ∧ intIn .i64 a.1 ∧ intIn .i64 a.2, fun _ h => h, fun h => by rw [h.1]; rfl, fun h v hv => by rw [h.1] at hv; simp at hv; rcases hv with rfl | rfl <;> rfl⟩
theorem cells_ballot : Try.prog.cellsOf 40 = 2 := by kernel_rfl
set_option maxRecDepth 100000 in
theorem reads_ballot : Reads Try.prog 40 pairR (fun _ => True) (fun _ => 1) := fun H enc W held fuel cs d ps h hw => by
  obtain ⟨ds, n, rfl, hl, _, hf⟩ := reads_fields Try.underlying40 h hw
  rw [cells_ballot] at hl
  match cs, hl with
  | [u, v], _ =>
  obtain ⟨d0, p0, _, h0, w0⟩ := hf 0 _ rfl
  obtain ⟨d1, p1, _, h1, w1⟩ := hf 1 _ rfl
  obtain ⟨x, ⟨e0, i0⟩, _⟩ := reads_int Try.underlying3 H enc W held n _ d0 p0 h0 w0
  obtain ⟨y, ⟨e1, i1⟩, _⟩ := reads_int Try.underlying3 H enc W held n _ d1 p1 h1 w1
  simp [cells_i] at e0 e1
  subst e0; subst e1
  exact ⟨(x, y), ⟨rfl, i0, i1⟩, trivial, fun B => B.one _⟩
theorem cells_dot : Try.prog.cellsOf 164 = 2 := by kernel_rfl
set_option maxRecDepth 100000 in
theorem reads_dot : Reads Try.prog 164 pairR (fun _ => True) (fun _ => 1) := fun H enc W held fuel cs d ps h hw => by
  obtain ⟨ds, n, rfl, hl, _, hf⟩ := reads_fields Try.underlying164 h hw
  rw [cells_dot] at hl
  match cs, hl with
  | [u, v], _ =>
  obtain ⟨d0, p0, _, h0, w0⟩ := hf 0 _ rfl
  obtain ⟨d1, p1, _, h1, w1⟩ := hf 1 _ rfl
  obtain ⟨x, ⟨e0, i0⟩, _⟩ := reads_int Try.underlying3 H enc W held n _ d0 p0 h0 w0
  obtain ⟨y, ⟨e1, i1⟩, _⟩ := reads_int Try.underlying3 H enc W held n _ d1 p1 h1 w1
  simp [cells_i] at e0 e1
  subst e0; subst e1
  exact ⟨(x, y), ⟨rfl, i0, i1⟩, trivial, fun B => B.one _⟩
def μEvent (e : EventD) : Nat := e.deps.length + e.cart.size + e.sku.size + 8
def μVoted (v : VotedD) : Nat := μEntry v.en + 3
def μMsg (m : MsgD) : Nat := μEntry m.en + (m.voted.map μVoted).sum + m.seen.length + (m.events.map μEvent).sum + 10
theorem cells_event : Try.prog.cellsOf 166 = 8 := by kernel_rfl
set_option maxRecDepth 100000 in
theorem reads_event : Reads Try.prog 166 eventR (fun _ => True) μEvent := fun H enc W held fuel cs d ps h hw => by
  obtain ⟨ds, n, rfl, hl, hdl, hf⟩ := reads_fields Try.underlying166 h hw
  rw [cells_event] at hl
  match cs, hl with
  | [u0, u1, u2, u3, u4, u5, u6, u7], _ =>
  obtain ⟨d0, p0, g0, h0, w0⟩ := hf 0 _ rfl
  obtain ⟨d1, p1, g1, h1, w1⟩ := hf 1 _ rfl
  obtain ⟨d2, p2, g2, h2, w2⟩ := hf 2 _ rfl
  obtain ⟨d3, p3, g3, h3, w3⟩ := hf 3 _ rfl
  obtain ⟨d4, p4, g4, h4, w4⟩ := hf 4 _ rfl
  obtain ⟨d5, p5, g5, h5, w5⟩ := hf 5 _ rfl
  obtain ⟨d6, p6, g6, h6, w6⟩ := hf 6 _ rfl
  obtain ⟨x0, ⟨e0, i0, j0⟩, _, m0⟩ := reads_dot H enc W held n _ d0 p0 h0 w0
  obtain ⟨x1, ⟨A1, c1, e1, i1⟩, k1, m1⟩ := reads_ints H enc W held n _ d1 p1 h1 w1
  obtain ⟨x2, ⟨e2, i2⟩, _, m2⟩ := reads_str Try.underlying9 H enc W held n _ d2 p2 h2 w2
  obtain ⟨x3, ⟨e3, i3⟩, _, m3⟩ := reads_int Try.underlying3 H enc W held n _ d3 p3 h3 w3
  obtain ⟨x4, ⟨e4, i4⟩, _, m4⟩ := reads_str Try.underlying9 H enc W held n _ d4 p4 h4 w4
  obtain ⟨x5, ⟨e5, i5⟩, _, m5⟩ := reads_int Try.underlying3 H enc W held n _ d5 p5 h5 w5
  obtain ⟨x6, e6, _, m6⟩ := reads_bool Try.underlying4 H enc W held n _ d6 p6 h6 w6
  simp [cells_dot] at e0
  obtain ⟨rfl, rfl⟩ := e0
  simp [cells_li] at e1
  subst e1
  simp [cells_s] at e2
  subst e2
  simp [cells_i] at e3
  subst e3
  simp [cells_s] at e4
  subst e4
  simp [cells_i] at e5
  subst e5
  simp [cells_b, boolR] at e6
  subst e6
  refine ⟨⟨x0, x1, x2, x3, x4, x5, x6⟩, ⟨(A1, c1), rfl, sl_to i1, i0, j0, by show x1.length ≤ _; omega, i2, i3, i4, i5⟩, trivial, fun B => ?_⟩
  refine Nat.le_trans ?_ (B.agg ds)
  match ds, hdl with
  | [a0, a1, a2, a3, a4, a5, a6], _ =>
  simp at g0 g1 g2 g3 g4 g5 g6
  subst g0
  subst g1
  subst g2
  subst g3
  subst g4
  subst g5
  subst g6
  have q0' : 1 ≤ B.f a0 := m0 B
  have q1' : x1.length + 1 ≤ B.f a1 := m1 B
  have q2' : x2.size + 1 ≤ B.f a2 := m2 B
  have q3' : 1 ≤ B.f a3 := m3 B
  have q4' : x4.size + 1 ≤ B.f a4 := m4 B
  have q5' : 1 ≤ B.f a5 := m5 B
  have q6' : 1 ≤ B.f a6 := m6 B
  simp only [List.map_cons, List.map_nil, List.sum_cons, List.sum_nil]
  show x1.length + x2.size + x4.size + 8 ≤ _
  omega
theorem cells_voted : Try.prog.cellsOf 50 = 8 := by kernel_rfl
set_option maxRecDepth 100000 in
theorem reads_voted : Reads Try.prog 50 votedR (fun _ => True) μVoted := fun H enc W held fuel cs d ps h hw => by
  obtain ⟨ds, n, rfl, hl, hdl, hf⟩ := reads_fields Try.underlying50 h hw
  rw [cells_voted] at hl
  match cs, hl with
  | [u0, u1, u2, u3, u4, u5, u6, u7], _ =>
  obtain ⟨d0, p0, g0, h0, w0⟩ := hf 0 _ rfl
  obtain ⟨d1, p1, g1, h1, w1⟩ := hf 1 _ rfl
  obtain ⟨d2, p2, g2, h2, w2⟩ := hf 2 _ rfl
  obtain ⟨x0, ⟨e0, i0⟩, _, m0⟩ := reads_int Try.underlying3 H enc W held n _ d0 p0 h0 w0
  obtain ⟨x1, ⟨e1, i1, j1⟩, _, m1⟩ := reads_ballot H enc W held n _ d1 p1 h1 w1
  obtain ⟨x2, ⟨q2, e2, s2, i2⟩, _, m2⟩ := reads_entry H enc W held n _ d2 p2 h2 w2
  simp [cells_i] at e0
  subst e0
  simp [cells_ballot] at e1
  obtain ⟨rfl, rfl⟩ := e1
  simp [cells_entry] at e2
  obtain ⟨rfl, rfl, rfl, rfl, rfl⟩ := e2
  refine ⟨⟨x0, x1, x2⟩, ⟨q2, rfl, s2, i0, i1, j1, i2⟩, trivial, fun B => ?_⟩
  refine Nat.le_trans ?_ (B.agg ds)
  match ds, hdl with
  | [a0, a1, a2], _ =>
  simp at g0 g1 g2
  subst g0
  subst g1
  subst g2
  have q0' : 1 ≤ B.f a0 := m0 B
  have q1' : 1 ≤ B.f a1 := m1 B
  have q2' : μEntry x2 ≤ B.f a2 := m2 B
  simp only [List.map_cons, List.map_nil, List.sum_cons, List.sum_nil]
  show μEntry x2 + 3 ≤ _
  omega
theorem cells_lv : Try.prog.cellsOf 22 = 1 := by kernel_rfl
theorem cells_le : Try.prog.cellsOf 42 = 1 := by kernel_rfl
theorem bytes_v : Try.prog.bytesOf 50 = 96 := by kernel_rfl
theorem bytes_e : Try.prog.bytesOf 166 = 96 := by kernel_rfl
theorem reads_voteds : Reads Try.prog 22 (sliceR votedR) (fun _ => True) (fun xs => (xs.map μVoted).sum + 1) := fun H enc W held fuel cs d ps h hw => by
  obtain ⟨xs, h1, h2, h3⟩ := reads_slice Try.underlying22 (R := votedR) (by kernel_rfl) (by decide) (by rw [bytes_v]; decide) reads_voted H enc W held fuel cs d ps h hw
  exact ⟨xs, h1, trivial, h3⟩
theorem reads_events : Reads Try.prog 42 (sliceR eventR) (fun _ => True) (fun xs => (xs.map μEvent).sum + 1) := fun H enc W held fuel cs d ps h hw => by
  obtain ⟨xs, h1, h2, h3⟩ := reads_slice Try.underlying42 (R := eventR) (by kernel_rfl) (by decide) (by rw [bytes_e]; decide) reads_event H enc W held fuel cs d ps h hw
  exact ⟨xs, h1, trivial, h3⟩
def msgR : Rep MsgD := exR 15 msgC (fun m p => [sl (intR .i64) p.cut.1 p.cut.2 m.en.order.cut, sl votedR p.voted.1 p.voted.2 m.voted, sl (intR .i64) p.seen.1 p.seen.2 m.seen, sl eventR p.events.1 p.events.2 m.events]) MsgOk (fun _ _ => rfl) (fun _ _ => rfl)
theorem sl_cons {α : Type} {R : Rep α} {A : Option Addr} {c : Nat} {xs : List α} {L : List HP} {M : Mem} (k : sliceAt M R A c xs) (h : Sep L M Mem.emp) : Sep (sl R A c xs :: L) M Mem.emp := ⟨Mem.emp, Mem.emp, Mem.emp_disj _, Mem.le_refl _, Mem.le_refl _, k, h⟩
theorem sl_split {α : Type} {R : Rep α} {A : Option Addr} {c : Nat} {xs : List α} {L : List HP} {M h : Mem} (k : Sep (sl R A c xs :: L) M h) : sliceAt M R A c xs ∧ ∃ h', Sep L M h' := let ⟨_, h2, _, _, _, hp, hs⟩ := k; ⟨hp, h2, hs⟩
theorem cells_msg : Try.prog.cellsOf 44 = 15 := by kernel_rfl
set_option maxRecDepth 100000 in
theorem reads_msg : Reads Try.prog 44 msgR (fun _ => True) μMsg := fun H enc W held fuel cs d ps h hw => by
  obtain ⟨ds, n, rfl, hl, hdl, hf⟩ := reads_fields Try.underlying44 h hw
  rw [cells_msg] at hl
  match cs, hl with
  | [u0, u1, u2, u3, u4, u5, u6, u7, u8, u9, u10, u11, u12, u13, u14], _ =>
  obtain ⟨d0, p0, g0, h0, w0⟩ := hf 0 _ rfl
  obtain ⟨d1, p1, g1, h1, w1⟩ := hf 1 _ rfl
  obtain ⟨d2, p2, g2, h2, w2⟩ := hf 2 _ rfl
  obtain ⟨d3, p3, g3, h3, w3⟩ := hf 3 _ rfl
  obtain ⟨d4, p4, g4, h4, w4⟩ := hf 4 _ rfl
  obtain ⟨d5, p5, g5, h5, w5⟩ := hf 5 _ rfl
  obtain ⟨d6, p6, g6, h6, w6⟩ := hf 6 _ rfl
  obtain ⟨d7, p7, g7, h7, w7⟩ := hf 7 _ rfl
  obtain ⟨d8, p8, g8, h8, w8⟩ := hf 8 _ rfl
  obtain ⟨d9, p9, g9, h9, w9⟩ := hf 9 _ rfl
  obtain ⟨x0, ⟨e0, i0⟩, _, m0⟩ := reads_int Try.underlying3 H enc W held n _ d0 p0 h0 w0
  obtain ⟨x1, ⟨e1, i1⟩, _, m1⟩ := reads_int Try.underlying3 H enc W held n _ d1 p1 h1 w1
  obtain ⟨x2, ⟨e2, i2⟩, _, m2⟩ := reads_int Try.underlying3 H enc W held n _ d2 p2 h2 w2
  obtain ⟨x3, ⟨e3, i3, j3⟩, _, m3⟩ := reads_ballot H enc W held n _ d3 p3 h3 w3
  obtain ⟨x4, ⟨e4, i4⟩, _, m4⟩ := reads_int Try.underlying3 H enc W held n _ d4 p4 h4 w4
  obtain ⟨x5, ⟨q5, e5, s5, i5⟩, _, m5⟩ := reads_entry H enc W held n _ d5 p5 h5 w5
  obtain ⟨x6, ⟨A6, c6, e6, i6⟩, k6, m6⟩ := reads_voteds H enc W held n _ d6 p6 h6 w6
  obtain ⟨x7, ⟨A7, c7, e7, i7⟩, k7, m7⟩ := reads_ints H enc W held n _ d7 p7 h7 w7
  obtain ⟨x8, ⟨A8, c8, e8, i8⟩, k8, m8⟩ := reads_events H enc W held n _ d8 p8 h8 w8
  obtain ⟨x9, ⟨e9, i9⟩, _, m9⟩ := reads_int Try.underlying3 H enc W held n _ d9 p9 h9 w9
  simp [cells_i] at e0
  subst e0
  simp [cells_i] at e1
  subst e1
  simp [cells_i] at e2
  subst e2
  simp [cells_ballot] at e3
  obtain ⟨rfl, rfl⟩ := e3
  simp [cells_i] at e4
  subst e4
  simp [cells_entry] at e5
  obtain ⟨rfl, rfl, rfl, rfl, rfl⟩ := e5
  simp [cells_lv] at e6
  subst e6
  simp [cells_li] at e7
  subst e7
  simp [cells_le] at e8
  subst e8
  simp [cells_i] at e9
  subst e9
  refine ⟨⟨x0, x1, x2, x3, x4, x5, x6, x7, x8, x9⟩, ⟨⟨q5, (A6, c6), (A7, c7), (A8, c8)⟩, rfl, sl_cons (sl_of s5) (sl_cons i6 (sl_cons i7 (sl_cons i8 trivial))), ⟨i0, i1, i2, i3, j3, i4, i5, i9⟩⟩, trivial, fun B => ?_⟩
  refine Nat.le_trans ?_ (B.agg ds)
  match ds, hdl with
  | [a0, a1, a2, a3, a4, a5, a6, a7, a8, a9], _ =>
  simp at g0 g1 g2 g3 g4 g5 g6 g7 g8 g9
  subst g0
  subst g1
  subst g2
  subst g3
  subst g4
  subst g5
  subst g6
  subst g7
  subst g8
  subst g9
  have q0' : 1 ≤ B.f a0 := m0 B
  have q1' : 1 ≤ B.f a1 := m1 B
  have q2' : 1 ≤ B.f a2 := m2 B
  have q3' : 1 ≤ B.f a3 := m3 B
  have q4' : 1 ≤ B.f a4 := m4 B
  have q5' : μEntry x5 ≤ B.f a5 := m5 B
  have q6' : (x6.map μVoted).sum + 1 ≤ B.f a6 := m6 B
  have q7' : x7.length + 1 ≤ B.f a7 := m7 B
  have q8' : (x8.map μEvent).sum + 1 ≤ B.f a8 := m8 B
  have q9' : 1 ≤ B.f a9 := m9 B
  simp only [List.map_cons, List.map_nil, List.sum_cons, List.sum_nil]
  show μEntry x5 + (x6.map μVoted).sum + x7.length + (x8.map μEvent).sum + 10 ≤ _
  omega
end Go.SL
