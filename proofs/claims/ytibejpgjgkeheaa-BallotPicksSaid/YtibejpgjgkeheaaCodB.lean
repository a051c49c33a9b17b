/- Codec: the walks of the number writers and of what they call. -/
import Derived.Test.YtibejpgjgkeheaaCodA
set_option linter.unusedVariables false
set_option linter.unusedSimpArgs false
namespace Go.SL
open Go Go.Proofs
theorem u64_small {x : Nat} (h : x < 18446744073709551616) : IntKind.u64.wrap (x : Int) = (x : Int) := IntWalk.u64_in _ (by omega)
theorem rem128 (y : Nat) : ((y : Int).tmod 128) = ((y % 128 : Nat) : Int) := by
  rw [Int.tmod_eq_emod_of_nonneg (by omega)]; omega
theorem quo128 {y : Nat} (h : y < 18446744073709551616) : IntKind.u64.wrap ((y : Int).tdiv 128) = ((y / 128 : Nat) : Int) := by
  rw [Int.tdiv_eq_ediv_of_nonneg (by omega), show (y : Int) / 128 = ((y / 128 : Nat) : Int) by omega, u64_small (by omega)]
theorem u8_in {x : Int} (h : 0 ≤ x ∧ x ≤ 255) : IntKind.u8.wrap x = x := IntWalk.u8_in _ h

theorem refUint_spec (x : Nat) (hx : x < 18446744073709551616) (L : List HP) : Fn Try.prog 134 #[.int .u64 (x : Int)] L (fun v L' => ∃ A c, v = .slice A (grp x).length c ∧ L' = osl (intR .u8) 5 A c (grp x) :: L) := by
  refine Fn_enter Try.func134 rfl rfl rfl rfl ?_
  refine T_region ?_
  refine TL_y rfl rfl (Y_assign rfl) ?_
  refine TL_nil ?_
  refine T_region ?_
  refine TL_y rfl rfl (Y_assign rfl) ?_
  refine TL_nil ?_
  refine T_seq ?_
  refine T_block ?_
  refine T_loopK (σ := GrpSt) [] (fun g => GrpI x g) (fun g kv => (0, .int .u64 (g.y : Int)) :: (3, .slice g.A g.out.length g.c) :: kv) (fun g => osl (intR .u8) 5 g.A g.c g.out :: L) (fun g => g.y) (⟨x, [], none, 0⟩) rfl (⟨hx, rfl, hx⟩) (osl_nil _ _ _ _) (sub_cons rfl (sub_cons rfl (sub_nil))) ?_
  intro g hg
  have hl := hg.len
  refine T_seq ?_
  refine T_region ?_
  refine TL_y rfl rfl (Y_move rfl) ?_
  refine TL_y rfl rfl (Y_ge rfl rfl) ?_
  refine TL_nil ?_
  refine T_if rfl (fun h5 => ?_) (fun h5 => ?_)
  · refine T_skip ?_
    refine thenS_normal ?_
    refine T_block ?_
    refine T_region ?_
    refine TL_y rfl rfl (Y_move rfl) ?_
    refine TL_y rfl rfl (Y_move rfl) ?_
    refine TL_y rfl rfl (Y_rem rfl rfl (by decide)) ?_
    refine TL_y rfl rfl (Y_conv rfl) ?_
    refine TL_name 9 (v' := .int .u8 ((g.y % 128 : Nat) : Int)) rfl (by rw [rem128, u8_in (by omega)]) ?_
    refine TL_y rfl rfl (Y_add_w rfl rfl) ?_
    refine TL_name 10 (v' := .int .u8 (((g.y % 128 : Nat) : Int) + 128)) rfl (by rw [u8_in (by omega)]) ?_
    refine TL_build_slice rfl rfl rfl rfl rfl rfl ?_
    intro b11
    refine TL_osl (intR .u8) [((g.y % 128 : Nat) : Int) + 128] (Knows.const fun M => cells_ints (xs := [((g.y % 128 : Nat) : Int) + 128]) (by simpa using byteIn) M) rfl (by simp) ?_
    refine TL_freeze_osl ?_
    refine TL_name 11 (v' := .slice (some ⟨b11, 0, none⟩) [((g.y % 128 : Nat) : Int) + 128].length 1) rfl rfl ?_
    refine TL_append rfl rfl rfl rfl rfl slk (by (try simp only [List.length_append, List.length_cons, List.length_nil]); omega) ?_
    intro A12 c12
    refine TL_y rfl rfl (Y_assign rfl) ?_
    refine TL_nil ?_
    refine T_region_last ?_
    refine TL_y rfl rfl (Y_move rfl) ?_
    refine TL_y rfl rfl (Y_quo_w rfl rfl (by decide)) ?_
    refine TL_name 14 (v' := .int .u64 ((g.y / 128 : Nat) : Int)) rfl (by rw [quo128 hg.1]) ?_
    refine TL_y rfl rfl (Y_assign rfl) ?_
    refine TL_nil ?_
    refine inB_normal ?_
    refine thenS_normal ?_
    exact ⟨⟨g.y / 128, g.out ++ [((g.y % 128 : Nat) : Int) + 128], A12, c12⟩, hg.next (by omega) A12 c12, by simp only; omega, holds_to (sub_cons rfl (sub_cons rfl (sub_nil))) GivesTo.g⟩
  · refine T_exit ?_
    refine thenS_exit ?_
    refine thenS_exit ?_
    refine inB_hit ?_
    refine thenS_normal ?_
    refine T_region ?_
    refine TL_y rfl rfl (Y_move rfl) ?_
    refine TL_y rfl rfl (Y_move rfl) ?_
    refine TL_y rfl rfl (Y_conv rfl) ?_
    refine TL_name 17 (v' := .int .u8 (g.y : Int)) rfl (by rw [u8_in (by omega)]) ?_
    refine TL_build_slice rfl rfl rfl rfl rfl rfl ?_
    intro b18
    refine TL_osl (intR .u8) [(g.y : Int)] (Knows.const fun M => cells_ints (xs := [(g.y : Int)]) (by simpa using u8In_mk (by omega)) M) rfl (by simp) ?_
    refine TL_freeze_osl ?_
    refine TL_name 18 (v' := .slice (some ⟨b18, 0, none⟩) [(g.y : Int)].length 1) rfl rfl ?_
    refine TL_append rfl rfl rfl rfl rfl slk (by (try simp only [List.length_append, List.length_cons, List.length_nil]); omega) ?_
    intro A19 c19
    refine TL_y rfl rfl (Y_assign rfl) ?_
    refine TL_nil ?_
    refine T_ret ?_
    have e : g.out ++ [(g.y : Int)] = grp x := by rw [← hg.2.1, grp_small (by omega)]
    rw [e]
    exact RetG_1 (.inl rfl) rfl (ResV.tmp rfl) GivesTo.g (⟨A19, c19, rfl, rfl⟩)





end Go.SL
