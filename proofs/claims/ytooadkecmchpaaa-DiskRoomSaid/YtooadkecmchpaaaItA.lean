/- Iterators: the items are gathered. -/
import Derived.Test.YtooadkecmchpaaaSlR
import Derived.Test.YtooadkecmchpaaaSlT
import Derived.Test.YtooadkecmchpaaaSlK
import Derived.Test.YtooadkecmchpaaaSlM
set_option linter.unusedVariables false
set_option linter.unusedSimpArgs false
namespace Go.SL
open Go Go.Proofs
theorem endr {κ α : Type} [DecidableEq κ] {K : KeyT κ} {R : Rep α} {ag : Bool} {b : Nat} {m done : List (κ × α)} {L L0 : List HP} (it : Nat) [hf : FindG L it b κ α K R ag m done L0] : Gives L (omap K R ag b m :: L0) := hf.g.trans mrange_end
structure GaSt where
  xs : List Int
  A : Option Addr
  c : Nat
def gaStep : LS GaSt → Int → LS GaSt → Prop := fun s x s' => s'.2 = none ∧ s'.1.xs = s.1.xs ++ [x]
theorem ga_runs {s s' : LS GaSt} {xs : List Int} (h0 : s.2 = none) (h : Runs gaStep (fun s => !s.2.isNone) s xs s') : s'.2 = none ∧ s'.1.xs = s.1.xs ++ xs := by
  induction h with
  | nil s => exact ⟨h0, by simp⟩
  | halt a b => rw [a.1] at b; simp at b
  | go a b c ih => have := ih a.1; rw [a.2] at this; simpa using this
theorem appendSeq_spec {c : Value} {N : Nat} {Lf Lr : List HP} {seqs : Bool → List Int → Prop} (hi : IterC Try.prog c (fun k : Int => [.int .i64 k]) (fun k => intIn .i64 k) N Lf seqs) (hN : N ≤ 1099511627776) : Fn Try.prog 126 #[.slice none 0 0, c] (Lf ++ Lr) (fun v L' => ∃ A' c' xs, v = .slice A' xs.length c' ∧ seqs false xs ∧ L' = osl (intR .i64) 3 A' c' xs :: (Lf ++ Lr)) := by
  refine Fn_enterM Try.func126 rfl rfl rfl rfl ?_
  refine T_region ?_
  refine TL_box rfl rfl rfl ?_
  intro b2
  refine TL_y rfl rfl (Y_assign rfl) ?_
  refine TL_nil ?_
  refine T_seq ?_
  refine T_region ?_
  refine TL_y rfl rfl (Y_move rfl) ?_
  refine TL_nil ?_
  refine T_block ?_
  refine T_range_iter (fun g : GaSt => [cells b2 [.slice g.A g.xs.length g.c] 38, osl (intR .i64) 3 g.A g.c g.xs]) (gaStep) (fun g : GaSt => g.xs.length) (⟨[], none, 0⟩) rfl (hi) ((osl_nil (intR .i64) 3 none _).trans (Gives.swap _ _ _)) (by decide) (fun _ => rfl) rfl (fun s x s' h => by rw [h.2]; simp) (fun l900 b900 g x Lx hx hlt => ?_) (fun m900 xs g hseq hrun => ?_)
  · obtain ⟨xs, A, c⟩ := g
    dsimp only at hlt
    try simp only [List.cons_append, List.nil_append]
    refine T_region_last ?_
    refine TL_y rfl rfl (Y_assign rfl) ?_
    refine TL_nil ?_
    refine ⟨rfl, _, FindHP.g, ?_⟩
    refine T_block ?_
    refine T_region_last ?_
    refine TL_y rfl rfl (Y_load rfl rfl) ?_
    refine TL_y rfl rfl (Y_move rfl) ?_
    refine TL_build_slice rfl rfl rfl rfl rfl rfl ?_
    intro b10
    refine TL_osl (k := 1) (intR .i64) [x] (Knows.const fun M => ⟨[.int .i64 x], [], ⟨rfl, hx⟩, rfl, rfl⟩) rfl (by decide) ?_
    refine TL_freeze_osl ?_
    refine TL_name 10 (v' := .slice (some ⟨b10, 0, none⟩) [x].length 1) rfl rfl ?_
    refine TL_append rfl rfl rfl rfl rfl slk (by simp only [List.length_cons, List.length_nil]; omega) ?_
    intro A11 c11
    refine TL_store rfl rfl rfl rfl rfl rfl ?_
    refine TL_nil ?_
    refine inB_normal ?_
    exact ⟨⟨xs ++ [x], A11, c11⟩, none, rfl, ⟨rfl, rfl⟩, GivesTo.g⟩
  · obtain ⟨⟨ys, A, c⟩, j⟩ := g
    obtain ⟨rfl, h2⟩ := ga_runs rfl hrun
    dsimp only at h2
    rw [List.nil_append] at h2
    subst h2
    try simp only [List.cons_append, List.nil_append]
    refine behind_none ?_
    refine inB_normal ?_
    refine thenS_normal ?_
    refine T_region ?_
    refine TL_y rfl rfl (Y_load rfl rfl) ?_
    refine TL_y rfl rfl (Y_assign rfl) ?_
    refine TL_nil ?_
    refine T_ret ?_
    refine retM1 ?_
    exact RetG_1 (.inl rfl) rfl (ResV.tmp rfl) GivesTo.g (⟨A, c, ys, rfl, hseq, rfl⟩)
theorem collect_spec {c : Value} {N : Nat} {Lf Lr : List HP} {seqs : Bool → List Int → Prop} (hi : IterC Try.prog c (fun k : Int => [.int .i64 k]) (fun k => intIn .i64 k) N Lf seqs) (hN : N ≤ 1099511627776) : Fn Try.prog 118 #[c] (Lf ++ Lr) (fun v L' => ∃ A' c' xs, v = .slice A' xs.length c' ∧ seqs false xs ∧ L' = osl (intR .i64) 3 A' c' xs :: (Lf ++ Lr)) := by
  refine Fn_enter Try.func118 rfl rfl rfl rfl ?_
  refine T_region ?_
  refine TL_y rfl rfl (Y_assign rfl) ?_
  refine TL_nil ?_
  refine T_region ?_
  refine TL_y rfl rfl (Y_move rfl) ?_
  refine TL_call rfl rfl (appendSeq_spec hi hN) ?_
  rintro _ _ ⟨A4, c4, xs, rfl, hs, rfl⟩
  refine TL_y rfl rfl (Y_assign rfl) ?_
  refine TL_nil ?_
  refine T_ret ?_
  exact RetG_1 (.inl rfl) rfl (ResV.tmp rfl) GivesTo.g (⟨A4, c4, xs, rfl, hs, rfl⟩)
/-! ### A map's keys -/
end Go.SL
