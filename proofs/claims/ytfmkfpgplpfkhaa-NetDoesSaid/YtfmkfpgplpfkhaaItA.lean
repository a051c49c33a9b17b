/- Iterators: the items are gathered. -/
import Derived.Test.YtfmkfpgplpfkhaaSlR
import Derived.Test.YtfmkfpgplpfkhaaSlT
import Derived.Test.YtfmkfpgplpfkhaaSlK
import Derived.Test.YtfmkfpgplpfkhaaSlM
set_option linter.unusedVariables false
set_option linter.unusedSimpArgs false
namespace Go.SL
open Go Go.Proofs
theorem endr {κ α : Type} [DecidableEq κ] {K : KeyT κ} {R : Rep α} {ag : Bool} {b : Nat} {m done : List (κ × α)} {L L0 : List HP} (it : Nat) [hf : FindG L it b κ α K R ag m done L0] : Gives L (omap K R ag b m :: L0) := hf.g.trans mrange_end
structure GaSt where
  xs : List Int
  A : Option Addr
  c : Nat
def gaStep : LS GaSt → Int → LS GaSt → Prop := fun s x s' => s'.2 = none ∧ s'.1.xs = s.1.xs ++ [x]
theorem ga_runs {s s' : LS GaSt} {xs : List Int} (h0 : s.2 = none) (h : Runs gaStep (fun s => !s.2.isNone) s xs s') : s'.2 = none ∧ s'.1.xs = s.1.xs ++ xs := by
  induction h with
  | nil s => exact ⟨h0, by simp⟩
  | halt a b => rw [a.1] at b; simp at b
  | go a b c ih => have := ih a.1; rw [a.2] at this; simpa using this
theorem appendSeq_spec {c : Value} {N : Nat} {Lf Lr : List HP} {seqs : Bool → List Int → Prop} (hi : IterC Try.prog c (fun k : Int => [.int .i64 k]) (fun k => intIn .i64 k) N Lf seqs) (hN : N ≤ 1099511627776) : Fn Try.prog 91 #[.slice none 0 0, c] (Lf ++ Lr) (fun v L' => ∃ A' c' xs, v = .slice A' xs.length c' ∧ seqs false xs ∧ L' = osl (intR .i64) 3 A' c' xs :: (Lf ++ Lr)) := by
  refine Fn_enterM Try.func91 rfl rfl rfl rfl ?_
  refine T_region ?_
  refine TL_box rfl rfl rfl ?_
  intro b2
  refine TL_y rfl rfl (Y_assign rfl) ?_
  refine TL_nil ?_
  refine T_seq ?_
  refine T_region ?_
  refine TL_y rfl rfl (Y_move rfl) ?_
  refine TL_nil ?_
  refine T_block ?_
  refine T_range_iter (fun g : GaSt => [cells b2 [.slice g.A g.xs.length g.c] 50, osl (intR .i64) 3 g.A g.c g.xs]) (gaStep) (fun g : GaSt => g.xs.length) (⟨[], none, 0⟩) rfl (hi) ((osl_nil (intR .i64) 3 none _).trans (Gives.swap _ _ _)) (by decide) (fun _ => rfl) rfl (fun s x s' h => by rw [h.2]; simp) (fun l900 b900 g x Lx hx hlt => ?_) (fun m900 xs g hseq hrun => ?_)
  · obtain ⟨xs, A, c⟩ := g
    dsimp only at hlt
    try simp only [List.cons_append, List.nil_append]
    refine T_region_last ?_
    refine TL_y rfl rfl (Y_assign rfl) ?_
    refine TL_nil ?_
    refine ⟨rfl, _, FindHP.g, ?_⟩
    refine T_block ?_
    refine T_region_last ?_
    refine TL_y rfl rfl (Y_load rfl rfl) ?_
    refine TL_y rfl rfl (Y_move rfl) ?_
    refine TL_build_slice rfl rfl rfl rfl rfl rfl ?_
    intro b10
    refine TL_osl (k := 1) (intR .i64) [x] (Knows.const fun M => ⟨[.int .i64 x], [], ⟨rfl, hx⟩, rfl, rfl⟩) rfl (by decide) ?_
    refine TL_freeze_osl ?_
    refine TL_name 10 (v' := .slice (some ⟨b10, 0, none⟩) [x].length 1) rfl rfl ?_
    refine TL_append rfl rfl rfl rfl rfl slk (by simp only [List.length_cons, List.length_nil]; omega) ?_
    intro A11 c11
    refine TL_store rfl rfl rfl rfl rfl rfl ?_
    refine TL_nil ?_
    refine inB_normal ?_
    exact ⟨⟨xs ++ [x], A11, c11⟩, none, rfl, ⟨rfl, rfl⟩, GivesTo.g⟩
  · obtain ⟨⟨ys, A, c⟩, j⟩ := g
    obtain ⟨rfl, h2⟩ := ga_runs rfl hrun
    dsimp only at h2
    rw [List.nil_append] at h2
    subst h2
    try simp only [List.cons_append, List.nil_append]
    refine behind_none ?_
    refine inB_normal ?_
    refine thenS_normal ?_
    refine T_region ?_
    refine TL_y rfl rfl (Y_load rfl rfl) ?_
    refine TL_y rfl rfl (Y_assign rfl) ?_
    refine TL_nil ?_
    refine T_ret ?_
    refine retM1 ?_
    exact RetG_1 (.inl rfl) rfl (ResV.tmp rfl) GivesTo.g (⟨A, c, ys, rfl, hseq, rfl⟩)
theorem collect_spec {c : Value} {N : Nat} {Lf Lr : List HP} {seqs : Bool → List Int → Prop} (hi : IterC Try.prog c (fun k : Int => [.int .i64 k]) (fun k => intIn .i64 k) N Lf seqs) (hN : N ≤ 1099511627776) : Fn Try.prog 77 #[c] (Lf ++ Lr) (fun v L' => ∃ A' c' xs, v = .slice A' xs.length c' ∧ seqs false xs ∧ L' = osl (intR .i64) 3 A' c' xs :: (Lf ++ Lr)) := by
  refine Fn_enter Try.func77 rfl rfl rfl rfl ?_
  refine T_region ?_
  refine TL_y rfl rfl (Y_assign rfl) ?_
  refine TL_nil ?_
  refine T_region ?_
  refine TL_y rfl rfl (Y_move rfl) ?_
  refine TL_call rfl rfl (appendSeq_spec hi hN) ?_
  rintro _ _ ⟨A4, c4, xs, rfl, hs, rfl⟩
  refine TL_y rfl rfl (Y_assign rfl) ?_
  refine TL_nil ?_
  refine T_ret ?_
  exact RetG_1 (.inl rfl) rfl (ResV.tmp rfl) GivesTo.g (⟨A4, c4, xs, rfl, hs, rfl⟩)
/-! ### A map's keys -/
theorem keysP1_spec {β : Type} {R : Rep β} {ag : Bool} {b bx : Nat} {m : List (Int × β)} {τ : Type} {l : Nat} {C : τ → HP} {step : τ → Int → τ → Prop} {stop : τ → Bool} {cnt : τ → Nat} {s0 : τ} {Lx : List HP} (h0 : stop s0 = false) (hc0 : cnt s0 = 0) (hcnt : ∀ s x s', step s x s' → cnt s' = cnt s + 1) (hy : YieldsC Try.prog l C (fun k : Int => [.int .i64 k]) (fun k => intIn .i64 k) step stop cnt m.length) :
    Fn Try.prog 79 #[.func (.yield l) #[] #[], .pointer (some ⟨bx, 0, none⟩)] (con l (C s0) :: cells bx [.map (some b)] 76 :: omap intK R ag b m :: Lx)
      (fun v L' => ∃ xs s', (stop s' = false → xs.Perm (m.map (·.1))) ∧ Runs step stop s0 xs s' ∧ L' = con l (C s') :: cells bx [.map (some b)] 76 :: omap intK R ag b m :: Lx) := by
  refine Fn_enter Try.func79 rfl rfl rfl rfl ?_
  refine T_region ?_
  refine TL_y rfl rfl (Y_load rfl rfl) ?_
  refine TL_range rfl rfl ?_
  intro it
  refine TL_nil ?_
  refine T_block ?_
  refine T_loopK (σ := List (Int × β) × τ) [0, 5] (fun g => Runs step stop s0 (g.1.map (·.1)) g.2 ∧ stop g.2 = false ∧ cnt g.2 = g.1.length) (fun g kv => kv) (fun g => con l (C g.2) :: mrange intK R ag b it m g.1 :: cells bx [.map (some b)] 76 :: Lx) (fun g => m.length - g.1.length) (([], s0)) rfl (⟨.nil _, h0, hc0⟩) (GivesTo.g) (sub_cons rfl (sub_cons rfl (sub_nil))) ?_
  rintro ⟨done, s⟩ ⟨hr, hs, hc⟩
  dsimp only at hr hs hc ⊢
  refine T_region ?_
  refine TL_next rfl rfl (fun hp => ?_) (fun q1 cs1 hq hd1 hlt => ?_)
  · refine TL_y rfl rfl (Y_extract rfl rfl) ?_
    refine TL_name 7 (v' := .bool false) rfl (rfl) ?_
    refine TL_nil ?_
    refine T_seq ?_
    refine T_cond_false rfl ?_
    refine T_exit ?_
    refine thenS_exit ?_
    refine thenS_exit ?_
    refine inB_hit ?_
    refine RetQ.gives (endr it) ?_
    exact RetG_0 (.inr rfl) rfl GivesTo.g (⟨_, s, fun _ => hp.map _, hr, rfl⟩)
  · refine TL_y rfl rfl (Y_extract rfl rfl) ?_
    refine TL_name 7 (v' := .bool true) rfl (rfl) ?_
    refine TL_nil ?_
    refine T_seq ?_
    refine T_cond_true rfl ?_
    refine T_skip ?_
    refine thenS_normal ?_
    refine T_block ?_
    refine T_region ?_
    refine TL_entry rfl rfl ?_
    intro cs8 ok8
    refine TL_y rfl rfl (Y_extract rfl rfl) ?_
    refine TL_y rfl rfl (Y_assign rfl) ?_
    refine TL_nil ?_
    refine T_region ?_
    refine TL_y rfl rfl (Y_move rfl) ?_
    refine TL_y rfl rfl (Y_move rfl) ?_
    refine TL_pullk l ?_
    refine TL_yield rfl rfl rfl (hy s q1.1 _ hs ok8 (by omega)) ?_
    rintro _ _ ⟨s2, hst, rfl, rfl⟩
    refine TL_y rfl rfl (Y_not rfl) ?_
    refine TL_nil ?_
    refine T_cond rfl (fun h13 => ?_) (fun h13 => ?_)
    · have hs2 : stop s2 = true := by simpa using h13
      refine T_ret ?_
      refine inB_ret ?_
      refine thenS_ret ?_
      refine inB_ret ?_
      refine RetQ.gives (endr it) ?_
      exact RetG_0 (.inl rfl) rfl GivesTo.g (⟨_, s2, fun h => (by rw [hs2] at h; cases h), hr.snoc h0 hs hst, rfl⟩)
    · have hs2 : stop s2 = false := by simpa using h13
      refine T_skip ?_
      refine inB_normal ?_
      refine thenS_normal ?_
      exact ⟨(done ++ [q1], s2), ⟨by rw [List.map_append]; exact hr.snoc h0 hs hst, hs2, by rw [hcnt _ _ _ hst, hc]; simp⟩, by simp only [List.length_append, List.length_cons, List.length_nil]; omega, holds_to (sub_cons rfl (sub_cons rfl (sub_nil))) GivesTo.g⟩
end Go.SL
