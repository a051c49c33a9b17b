/- Iterators: gathered and sorted. -/
import Derived.Test.YtfmkfpgplpfkhaaItA
import Derived.Test.YtfmkfpgplpfkhaaSortA
set_option linter.unusedVariables false
set_option linter.unusedSimpArgs false
namespace Go.SL
open Go Go.Proofs
theorem sorted_spec {c : Value} {N : Nat} {Lf Lr : List HP} {seqs : Bool → List Int → Prop} (hi : IterC Try.prog c (fun k : Int => [.int .i64 k]) (fun k => intIn .i64 k) N Lf seqs) (hN : N ≤ 1099511627776) : Fn Try.prog 63 #[c] (Lf ++ Lr) (fun v L' => ∃ A' c' xs, v = .slice A' (srt xs).length c' ∧ seqs false xs ∧ L' = osl (intR .i64) 3 A' c' (srt xs) :: (Lf ++ Lr)) := by
  refine Fn_enter Try.func63 rfl rfl rfl rfl ?_
  refine T_region ?_
  refine TL_y rfl rfl (Y_assign rfl) ?_
  refine TL_nil ?_
  refine T_region ?_
  refine TL_y rfl rfl (Y_move rfl) ?_
  refine TL_call rfl rfl (collect_spec hi hN) ?_
  rintro _ _ ⟨A5, c5, xs, rfl, hs, rfl⟩
  refine TL_fact osl_len (fun _ h => h) fun hl5 => ?_
  simp only [maxEl] at hl5
  refine TL_y rfl rfl (Y_assign rfl) ?_
  refine TL_nil ?_
  refine T_region ?_
  refine TL_y rfl rfl (Y_move rfl) ?_
  refine TL_call rfl rfl (sort_spec (by omega)) ?_
  rintro _ _ ⟨rfl, rfl⟩
  refine TL_nil ?_
  refine T_region ?_
  refine TL_y rfl rfl (Y_move rfl) ?_
  refine TL_y rfl rfl (Y_assign rfl) ?_
  refine TL_nil ?_
  refine T_ret ?_
  rw [← srt_length xs]
  exact RetG_1 (.inl rfl) rfl (ResV.tmp rfl) GivesTo.g (⟨A5, c5, xs, rfl, hs, rfl⟩)
theorem keysP_iter {β : Type} {R : Rep β} {ag : Bool} {b bx : Nat} {m : List (Int × β)} : IterC Try.prog (.func (.func 79) #[] #[.pointer (some ⟨bx, 0, none⟩)]) (fun k : Int => [.int .i64 k]) (fun k => intIn .i64 k) m.length [cells bx [.map (some b)] 76, omap intK R ag b m] (fun s ks => s = false → ks.Perm (m.map (·.1))) :=
  ⟨_, [], [.pointer (some ⟨bx, 0, none⟩)], rfl, inferInstance, fun τ l C step stop cnt s0 Lx h0 hc hcnt hy => (keysP1_spec h0 hc hcnt hy).cases_ fun v L' ⟨xs, s', a1, a2, a3⟩ => ⟨xs, s', a1, a2, a3⟩⟩
theorem keysP_spec {L : List HP} {b : Nat} : Fn Try.prog 64 #[.map (some b)] L (fun v L' => ∃ bx, v = .func (.func 79) #[] #[.pointer (some ⟨bx, 0, none⟩)] ∧ L' = cells bx [.map (some b)] 76 :: L) := by
  refine Fn_enter Try.func64 rfl rfl rfl rfl ?_
  refine T_region ?_
  refine TL_box rfl rfl rfl ?_
  intro b1
  refine TL_y rfl rfl (Y_assign rfl) ?_
  refine TL_nil ?_
  refine T_region ?_
  refine TL_y rfl rfl (Y_make_func rfl rfl) ?_
  refine TL_y rfl rfl (Y_assign rfl) ?_
  refine TL_nil ?_
  refine T_ret ?_
  exact RetG_1 (.inl rfl) rfl (ResV.tmp rfl) GivesTo.g (⟨b1, rfl, rfl⟩)
end Go.SL
