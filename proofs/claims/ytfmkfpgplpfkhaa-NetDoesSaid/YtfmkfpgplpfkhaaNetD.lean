/- Net: all packets. -/
import Derived.Test.YtfmkfpgplpfkhaaNetC
set_option linter.unusedVariables false
set_option linter.unusedSimpArgs false
namespace Go.SL
open Go Go.Proofs
structure GpSt where
  xs : List PackD
  A : Option Addr
  c : Nat
def gpStep : LS GpSt → PackD → LS GpSt → Prop := fun s x s' => s'.2 = none ∧ s'.1.xs = s.1.xs ++ [x]
theorem gp_runs {s s' : LS GpSt} {xs : List PackD} (h0 : s.2 = none) (h : Runs gpStep (fun s => !s.2.isNone) s xs s') : s'.2 = none ∧ s'.1.xs = s.1.xs ++ xs := by
  induction h with
  | nil s => exact ⟨h0, by simp⟩
  | halt a b => rw [a.1] at b; simp at b
  | go a b c ih => have := ih a.1; rw [a.2] at this; simpa using this
theorem appendSeqP_spec {c : Value} {N : Nat} {Lf Lr : List HP} {seqs : Bool → List PackD → Prop} (hi : IterC Try.prog c (fun p : PackD => [packV p]) packOk N Lf seqs) (hN : N ≤ 1099511627776) : Fn Try.prog 80 #[.slice none 0 0, c] (Lf ++ Lr) (fun v L' => ∃ A' c' xs, v = .slice A' xs.length c' ∧ seqs false xs ∧ L' = osl packR 36 A' c' xs :: (Lf ++ Lr)) := by
  refine Fn_enterM Try.func80 rfl rfl rfl rfl ?_
  refine T_region ?_
  refine TL_box rfl rfl rfl ?_
  intro b2
  refine TL_y rfl rfl (Y_assign rfl) ?_
  refine TL_nil ?_
  refine T_seq ?_
  refine T_region ?_
  refine TL_y rfl rfl (Y_move rfl) ?_
  refine TL_nil ?_
  refine T_block ?_
  refine T_range_iter (fun g : GpSt => [cells b2 [.slice g.A g.xs.length g.c] 79, osl packR 36 g.A g.c g.xs]) (gpStep) (fun g : GpSt => g.xs.length) (⟨[], none, 0⟩) rfl (hi) ((osl_nil packR 36 none _).trans (Gives.swap _ _ _)) (by decide) (fun _ => rfl) rfl (fun s x s' h => by rw [h.2]; simp) (fun l900 b900 g x Lx hx hlt => ?_) (fun m900 xs g hseq hrun => ?_)
  · obtain ⟨xs, A, c⟩ := g
    dsimp only at hlt
    try simp only [List.cons_append, List.nil_append]
    refine T_region_last ?_
    refine TL_alloc rfl rfl ?_
    intro b5
    refine TL_store rfl rfl rfl rfl rfl rfl ?_
    refine TL_nil ?_
    refine ⟨rfl, _, FindHP.g, ?_⟩
    refine T_block ?_
    refine T_region_last ?_
    refine TL_y rfl rfl (Y_load rfl rfl) ?_
    refine TL_y rfl rfl (Y_load_agg rfl rfl) ?_
    refine TL_build_slice rfl rfl rfl rfl rfl rfl ?_
    intro b10
    refine TL_osl (k := 1) packR [x] (Knows.const fun M => ⟨packC x, [], ⟨rfl, hx⟩, rfl, rfl⟩) rfl (by decide) ?_
    refine TL_freeze_osl ?_
    refine TL_name 10 (v' := .slice (some ⟨b10, 0, none⟩) [x].length 1) rfl rfl ?_
    refine TL_append rfl rfl rfl rfl rfl slk (by simp only [List.length_cons, List.length_nil]; omega) ?_
    intro A11 c11
    refine TL_store rfl rfl rfl rfl rfl rfl ?_
    refine TL_nil ?_
    refine inB_normal ?_
    exact ⟨⟨xs ++ [x], A11, c11⟩, none, rfl, ⟨rfl, rfl⟩, GivesTo.g⟩
  · obtain ⟨⟨ys, A, c⟩, j⟩ := g
    obtain ⟨rfl, h2⟩ := gp_runs rfl hrun
    dsimp only at h2
    rw [List.nil_append] at h2
    subst h2
    try simp only [List.cons_append, List.nil_append]
    refine behind_none ?_
    refine inB_normal ?_
    refine thenS_normal ?_
    refine T_region ?_
    refine TL_y rfl rfl (Y_load rfl rfl) ?_
    refine TL_y rfl rfl (Y_assign rfl) ?_
    refine TL_nil ?_
    refine T_ret ?_
    refine retM1 ?_
    exact RetG_1 (.inl rfl) rfl (ResV.tmp rfl) GivesTo.g (⟨A, c, ys, rfl, hseq, rfl⟩)
theorem collectP_spec {c : Value} {N : Nat} {Lf Lr : List HP} {seqs : Bool → List PackD → Prop} (hi : IterC Try.prog c (fun p : PackD => [packV p]) packOk N Lf seqs) (hN : N ≤ 1099511627776) : Fn Try.prog 66 #[c] (Lf ++ Lr) (fun v L' => ∃ A' c' xs, v = .slice A' xs.length c' ∧ seqs false xs ∧ L' = osl packR 36 A' c' xs :: (Lf ++ Lr)) := by
  refine Fn_enter Try.func66 rfl rfl rfl rfl ?_
  refine T_region ?_
  refine TL_y rfl rfl (Y_assign rfl) ?_
  refine TL_nil ?_
  refine T_region ?_
  refine TL_y rfl rfl (Y_move rfl) ?_
  refine TL_call rfl rfl (appendSeqP_spec hi hN) ?_
  rintro _ _ ⟨A4, c4, xs, rfl, hs, rfl⟩
  refine TL_y rfl rfl (Y_assign rfl) ?_
  refine TL_nil ?_
  refine T_ret ?_
  exact RetG_1 (.inl rfl) rfl (ResV.tmp rfl) GivesTo.g (⟨A4, c4, xs, rfl, hs, rfl⟩)
theorem where_spec {L : List HP} {b : Nat} {fw : FuncId} {f1 c1 : Array Value} : Fn Try.prog 61 #[.pointer (some ⟨b, 0, none⟩), .func (.func fw) f1 c1] L (fun v L' => ∃ bn bw, v = .func (.func 76) #[] #[.pointer (some ⟨bn, 0, none⟩), .pointer (some ⟨bw, 0, none⟩)] ∧ L' = cells bn [.pointer (some ⟨b, 0, none⟩)] 23 :: cells bw [.func (.func fw) f1 c1] 107 :: L) := by
  refine Fn_enter Try.func61 rfl rfl rfl rfl ?_
  refine T_region ?_
  refine TL_box rfl rfl rfl ?_
  intro b2
  refine TL_box rfl rfl rfl ?_
  intro b3
  refine TL_y rfl rfl (Y_assign rfl) ?_
  refine TL_nil ?_
  refine T_region ?_
  refine TL_y rfl rfl (Y_make_func rfl rfl) ?_
  refine TL_y rfl rfl (Y_assign rfl) ?_
  refine TL_nil ?_
  refine T_ret ?_
  exact RetG_1 (.inl rfl) rfl (ResV.tmp rfl) GivesTo.g (⟨b2, b3, rfl, rfl⟩)
abbrev whL (b bn bw : Nat) (s : NS) (fw : FuncId) (fsw csw : List Value) (Lw : HP) : List HP := [nt b s, cells bn [.pointer (some ⟨b, 0, none⟩)] 23, cells bw [.func (.func fw) fsw.toArray csw.toArray] 107, con bw Lw]
theorem where_iter {b bn bw : Nat} {s : NS} {fw : FuncId} [IsCall Try.prog fw] {fsw csw : List Value} {Lw : HP} {W : PackD → Bool} (hw : ∀ p Lx, packOk p → Fn Try.prog fw (fsw ++ [packV p] ++ csw).toArray (con bw Lw :: Lx) (fun v L' => v = .bool (W p) ∧ L' = con bw Lw :: Lx)) :
    IterC Try.prog (.func (.func 76) #[] #[.pointer (some ⟨bn, 0, none⟩), .pointer (some ⟨bw, 0, none⟩)]) (fun p : PackD => [packV p]) packOk 65536 (whL b bn bw s fw fsw csw Lw) (fun st xs => (st = false → xs = s.L.filter W) ∧ xs <+: s.L.filter W) :=
  ⟨_, [], [.pointer (some ⟨bn, 0, none⟩), .pointer (some ⟨bw, 0, none⟩)], rfl, inferInstance, fun τ l C step stop cnt s0 Lx h0 hc hcnt hy => (where1_spec hw h0 hc hcnt hy).cases_ fun v L' ⟨xs, s', a1, a2, a3⟩ => ⟨xs, s', a1, a2, a3⟩⟩
theorem all1_spec {L : List HP} {bw : Nat} (p : PackD) : Fn Try.prog 67 #[packV p] (con bw (pure True) :: L) (fun v L' => v = .bool true ∧ L' = con bw (pure True) :: L) := by
  refine Fn_enter Try.func67 rfl rfl rfl rfl ?_
  refine T_region ?_
  refine TL_box rfl rfl rfl ?_
  intro b1
  refine TL_y rfl rfl (Y_assign rfl) ?_
  refine TL_nil ?_
  refine T_region ?_
  refine TL_y rfl rfl (Y_assign rfl) ?_
  refine TL_nil ?_
  refine T_ret ?_
  exact RetG_1 (.inl rfl) rfl (ResV.tmp rfl) GivesTo.g (⟨rfl, rfl⟩)
theorem netAll_spec {L : List HP} {b : Nat} {s : NS} : Fn Try.prog 45 #[.pointer (some ⟨b, 0, none⟩)] (nt b s :: L) (fun v L' => ∃ A c, v = .slice A s.L.length c ∧ L' = osl packR 36 A c s.L :: nt b s :: L) := by
  refine Fn_enter Try.func45 rfl rfl rfl rfl ?_
  refine T_region ?_
  refine TL_y rfl rfl (Y_assign rfl) ?_
  refine TL_nil ?_
  refine T_region ?_
  refine TL_y rfl rfl (Y_move rfl) ?_
  refine TL_call rfl rfl (where_spec) ?_
  rintro _ _ ⟨bn, bw, rfl, rfl⟩
  refine TL_gives (Gives.pure_intro trivial) ?_
  refine TL_gives (show Gives (con bw (pure True) :: cells bn [.pointer (some ⟨b, 0, none⟩)] 23 :: cells bw [.func (.func 67) #[] #[]] 107 :: nt b s :: L) (nt b s :: cells bn [.pointer (some ⟨b, 0, none⟩)] 23 :: cells bw [.func (.func 67) #[] #[]] 107 :: con bw (pure True) :: L) from GivesTo.g) ?_
  refine TL_call rfl rfl (collectP_spec (Lf := whL b bn bw s 67 [] [] (pure True)) (Lr := L) (where_iter (W := fun _ ↦ true) (fun p Lx hp ↦ all1_spec p)) (by decide)) ?_
  rintro _ _ ⟨A5, c5, xs, rfl, hseq, rfl⟩
  obtain rfl : xs = s.L := (hseq.1 rfl).trans (List.filter_eq_self.2 fun _ _ => rfl)
  simp only [whL, List.cons_append, List.nil_append]
  refine TL_y rfl rfl (Y_assign rfl) ?_
  refine TL_nil ?_
  refine T_ret ?_
  exact RetG_1 (.inl rfl) rfl (ResV.tmp rfl) GivesTo.g (⟨A5, c5, rfl, rfl⟩)
end Go.SL
