/- Codec: the walks of the number writers and of what they call. -/
import Derived.Test.YtiiejjdkhekhmaaCodA
set_option linter.unusedVariables false
set_option linter.unusedSimpArgs false
namespace Go.SL
open Go Go.Proofs
theorem u64_small {x : Nat} (h : x < 18446744073709551616) : IntKind.u64.wrap (x : Int) = (x : Int) := IntWalk.u64_in _ (by omega)
theorem rem128 (y : Nat) : ((y : Int).tmod 128) = ((y % 128 : Nat) : Int) := by
  rw [Int.tmod_eq_emod_of_nonneg (by omega)]; omega
theorem quo128 {y : Nat} (h : y < 18446744073709551616) : IntKind.u64.wrap ((y : Int).tdiv 128) = ((y / 128 : Nat) : Int) := by
  rw [Int.tdiv_eq_ediv_of_nonneg (by omega), show (y : Int) / 128 = ((y / 128 : Nat) : Int) by omega, u64_small (by omega)]
theorem u8_in {x : Int} (h : 0 ≤ x ∧ x ≤ 255) : IntKind.u8.wrap x = x := IntWalk.u8_in _ h

theorem refUint_spec (x : Nat) (hx : x < 18446744073709551616) (L : List HP) : Fn Try.prog 17 #[.int .u64 (x : Int)] L (fun v L' => ∃ A c, v = .slice A (grp x).length c ∧ L' = osl (intR .u8) 5 A c (grp x) :: L) := by
  refine Fn_enter Try.func17 rfl rfl rfl rfl ?_
  refine T_region ?_
  refine TL_y rfl rfl (Y_assign rfl) ?_
  refine TL_nil ?_
  refine T_region ?_
  refine TL_y rfl rfl (Y_assign rfl) ?_
  refine TL_nil ?_
  refine T_seq ?_
  refine T_block ?_
  refine T_loopK (σ := GrpSt) [] (fun g => GrpI x g) (fun g kv => (0, .int .u64 (g.y : Int)) :: (3, .slice g.A g.out.length g.c) :: kv) (fun g => osl (intR .u8) 5 g.A g.c g.out :: L) (fun g => g.y) (⟨x, [], none, 0⟩) rfl (⟨hx, rfl, hx⟩) (osl_nil _ _ _ _) (sub_cons rfl (sub_cons rfl (sub_nil))) ?_
  intro g hg
  have hl := hg.len
  refine T_seq ?_
  refine T_region ?_
  refine TL_y rfl rfl (Y_move rfl) ?_
  refine TL_y rfl rfl (Y_ge rfl rfl) ?_
  refine TL_nil ?_
  refine T_if rfl (fun h5 => ?_) (fun h5 => ?_)
  · refine T_skip ?_
    refine thenS_normal ?_
    refine T_block ?_
    refine T_region ?_
    refine TL_y rfl rfl (Y_move rfl) ?_
    refine TL_y rfl rfl (Y_move rfl) ?_
    refine TL_y rfl rfl (Y_rem rfl rfl (by decide)) ?_
    refine TL_y rfl rfl (Y_conv rfl) ?_
    refine TL_name 9 (v' := .int .u8 ((g.y % 128 : Nat) : Int)) rfl (by rw [rem128, u8_in (by omega)]) ?_
    refine TL_y rfl rfl (Y_add_w rfl rfl) ?_
    refine TL_name 10 (v' := .int .u8 (((g.y % 128 : Nat) : Int) + 128)) rfl (by rw [u8_in (by omega)]) ?_
    refine TL_build_slice rfl rfl rfl rfl rfl rfl ?_
    intro b11
    refine TL_osl (intR .u8) [((g.y % 128 : Nat) : Int) + 128] (Knows.const fun M => cells_ints (xs := [((g.y % 128 : Nat) : Int) + 128]) (by simpa using byteIn) M) rfl (by simp) ?_
    refine TL_freeze_osl ?_
    refine TL_name 11 (v' := .slice (some ⟨b11, 0, none⟩) [((g.y % 128 : Nat) : Int) + 128].length 1) rfl rfl ?_
    refine TL_append rfl rfl rfl rfl rfl slk (by (try simp only [List.length_append, List.length_cons, List.length_nil]); omega) ?_
    intro A12 c12
    refine TL_y rfl rfl (Y_assign rfl) ?_
    refine TL_nil ?_
    refine T_region_last ?_
    refine TL_y rfl rfl (Y_move rfl) ?_
    refine TL_y rfl rfl (Y_quo_w rfl rfl (by decide)) ?_
    refine TL_name 14 (v' := .int .u64 ((g.y / 128 : Nat) : Int)) rfl (by rw [quo128 hg.1]) ?_
    refine TL_y rfl rfl (Y_assign rfl) ?_
    refine TL_nil ?_
    refine inB_normal ?_
    refine thenS_normal ?_
    exact ⟨⟨g.y / 128, g.out ++ [((g.y % 128 : Nat) : Int) + 128], A12, c12⟩, hg.next (by omega) A12 c12, by simp only; omega, holds_to (sub_cons rfl (sub_cons rfl (sub_nil))) GivesTo.g⟩
  · refine T_exit ?_
    refine thenS_exit ?_
    refine thenS_exit ?_
    refine inB_hit ?_
    refine thenS_normal ?_
    refine T_region ?_
    refine TL_y rfl rfl (Y_move rfl) ?_
    refine TL_y rfl rfl (Y_move rfl) ?_
    refine TL_y rfl rfl (Y_conv rfl) ?_
    refine TL_name 17 (v' := .int .u8 (g.y : Int)) rfl (by rw [u8_in (by omega)]) ?_
    refine TL_build_slice rfl rfl rfl rfl rfl rfl ?_
    intro b18
    refine TL_osl (intR .u8) [(g.y : Int)] (Knows.const fun M => cells_ints (xs := [(g.y : Int)]) (by simpa using u8In_mk (by omega)) M) rfl (by simp) ?_
    refine TL_freeze_osl ?_
    refine TL_name 18 (v' := .slice (some ⟨b18, 0, none⟩) [(g.y : Int)].length 1) rfl rfl ?_
    refine TL_append rfl rfl rfl rfl rfl slk (by (try simp only [List.length_append, List.length_cons, List.length_nil]); omega) ?_
    intro A19 c19
    refine TL_y rfl rfl (Y_assign rfl) ?_
    refine TL_nil ?_
    refine T_ret ?_
    have e : g.out ++ [(g.y : Int)] = grp x := by rw [← hg.2.1, grp_small (by omega)]
    rw [e]
    exact RetG_1 (.inl rfl) rfl (ResV.tmp rfl) GivesTo.g (⟨A19, c19, rfl, rfl⟩)

theorem clone_u8_spec {L : List HP} {A : Option Addr} {c : Nat} {xs : List Int} (hk : SlK L (intR .u8) A c xs) (hb : xs.length ≤ 140737488355328) : Fn Try.prog 93 #[.slice A xs.length c] L (fun v L' => ∃ A' c', v = .slice A' xs.length c' ∧ L' = osl (intR .u8) 5 A' c' xs :: L) := by
  refine Fn_enter Try.func93 rfl rfl rfl rfl ?_
  refine T_region ?_
  refine TL_y rfl rfl (Y_assign rfl) ?_
  refine TL_nil ?_
  refine T_seq ?_
  refine T_region ?_
  refine TL_y rfl rfl (Y_move rfl) ?_
  refine TL_y rfl rfl (Y_equal rfl rfl (EqIs.slice_nil)) ?_
  refine TL_nil ?_
  refine T_if rfl (fun h4 => ?_) (fun h4 => ?_)
  · subst h4
    refine T_fact hk.none_nil (fun _ h => h) (fun e => ?_)
    subst e
    refine T_onil (A := none) (intR .u8) 5 ?_
    refine T_region ?_
    refine TL_y rfl rfl (Y_assign rfl) ?_
    refine TL_nil ?_
    refine T_ret ?_
    refine thenS_ret ?_
    exact RetG_1 (.inl rfl) rfl (ResV.tmp rfl) GivesTo.g (⟨none, 0, rfl, rfl⟩)
  · refine T_skip ?_
    refine thenS_normal ?_
    refine T_region ?_
    refine TL_build_slice rfl rfl rfl rfl rfl rfl ?_
    intro b5
    refine TL_osl (k := 0) (intR .u8) [] (Knows.const fun M => rfl) rfl (by simp) ?_
    refine TL_name 5 (v' := .slice (some ⟨b5, 0, none⟩) ([] : List Int).length 0) rfl rfl ?_
    refine TL_y rfl rfl (Y_move rfl) ?_
    refine TL_append rfl rfl rfl rfl rfl (hk) (by (try simp only [List.length_append, List.length_cons, List.length_nil]); omega) ?_
    intro A7 c7
    refine TL_y rfl rfl (Y_assign rfl) ?_
    refine TL_nil ?_
    refine T_ret ?_
    simp only [List.nil_append]
    exact RetG_1 (.inl rfl) rfl (ResV.tmp rfl) GivesTo.g (⟨A7, c7, rfl, rfl⟩)

theorem clip_u8_spec {L : List HP} {A : Option Addr} {c : Nat} {xs : List Int} (hk : SlK L (intR .u8) A c xs) : Fn Try.prog 92 #[.slice A xs.length c] L (fun v L' => v = .slice A xs.length xs.length ∧ L' = L) := by
  refine Fn_enter Try.func92 rfl rfl rfl rfl ?_
  refine hk.lens fun hl => ?_
  refine T_region ?_
  refine TL_y rfl rfl (Y_assign rfl) ?_
  refine TL_nil ?_
  refine T_region ?_
  refine TL_y rfl rfl (Y_move rfl) ?_
  refine TL_y rfl rfl (Y_move rfl) ?_
  refine TL_y rfl rfl (Y_len rfl) ?_
  refine TL_y rfl rfl (Y_move rfl) ?_
  refine TL_y rfl rfl (Y_len rfl) ?_
  refine TL_y rfl rfl (Y_cut_hm rfl rfl rfl (by omega)) ?_
  refine TL_name 8 (v' := .slice A xs.length xs.length) rfl (by simp) ?_
  refine TL_y rfl rfl (Y_assign rfl) ?_
  refine TL_nil ?_
  refine T_ret ?_
  exact RetG_1 (.inl rfl) rfl (ResV.tmp rfl) GivesTo.g (⟨rfl, rfl⟩)

theorem fresh_spec {L : List HP} {A B : Option Addr} {c d : Nat} {xs ys : List Int} (hk : SlK L (intR .u8) A c xs) (hk2 : SlK L (intR .u8) B d ys) (hy : 0 < ys.length) (hb : xs.length + ys.length ≤ 140737488355328) : Fn Try.prog 62 #[.slice A xs.length c, .slice B ys.length d] L (fun v L' => ∃ A' c', v = .slice A' (xs ++ ys).length c' ∧ L' = osl (intR .u8) 5 A' c' (xs ++ ys) :: L) := by
  refine Fn_enter Try.func62 rfl rfl rfl rfl ?_
  refine T_region ?_
  refine TL_y rfl rfl (Y_assign rfl) ?_
  refine TL_nil ?_
  refine T_region ?_
  refine TL_y rfl rfl (Y_move rfl) ?_
  refine TL_call rfl rfl (clone_u8_spec hk (by omega)) ?_
  rintro _ _ ⟨A6, c6, rfl, rfl⟩
  refine TL_freeze_osl ?_
  refine TL_call rfl rfl (clip_u8_spec slk) ?_
  rintro _ _ ⟨rfl, rfl⟩
  refine TL_y rfl rfl (Y_move rfl) ?_
  refine TL_append_new rfl rfl rfl rfl rfl (SlK.cap (c := c6) slk) hk2.tail (by omega) (by omega) ?_
  intro A9 c9
  refine TL_y rfl rfl (Y_assign rfl) ?_
  refine TL_nil ?_
  refine T_ret ?_
  exact RetG_1 (.inl rfl) rfl (ResV.tmp rfl) GivesTo.g (⟨A9, c9, rfl, rfl⟩)

theorem uint_spec {L : List HP} {A : Option Addr} {c : Nat} {xs : List Int} (hk : SlK L (intR .u8) A c xs) (x : Nat) (hx : x < 18446744073709551616) (hb : xs.length + 10 ≤ 140737488355328) : Fn Try.prog 16 #[.slice A xs.length c, .int .u64 (x : Int)] L (fun v L' => ∃ A' c', v = .slice A' (xs ++ grp x).length c' ∧ L' = osl (intR .u8) 5 A' c' (xs ++ grp x) :: L) := by
  have hl := grp_ten hx
  refine Fn_enter Try.func16 rfl rfl rfl rfl ?_
  refine T_region ?_
  refine TL_y rfl rfl (Y_assign rfl) ?_
  refine TL_nil ?_
  refine T_region ?_
  refine TL_y rfl rfl (Y_move rfl) ?_
  refine TL_y rfl rfl (Y_move rfl) ?_
  refine TL_call rfl rfl (group_spec x hx _) ?_
  rintro _ _ ⟨A7, c7, rfl, rfl⟩
  refine TL_freeze_osl ?_
  refine TL_call rfl rfl (fresh_spec hk.tail slk (grp_pos x) (by omega)) ?_
  rintro _ _ ⟨A8, c8, rfl, rfl⟩
  refine TL_y rfl rfl (Y_assign rfl) ?_
  refine TL_nil ?_
  refine T_ret ?_
  exact RetG_1 (.inl rfl) rfl (ResV.tmp rfl) GivesTo.g (⟨A8, c8, rfl, rfl⟩)

theorem same_spec {L : List HP} {A B : Option Addr} {c d : Nat} {xs ys : List Int} (hk : SlK L (intR .u8) A c xs) (hk2 : SlK L (intR .u8) B d ys) : Fn Try.prog 64 #[.slice A xs.length c, .slice B ys.length d] L (fun v L' => v = .bool (decide (xs = ys)) ∧ L' = L) := by
  refine Fn_enter Try.func64 rfl rfl rfl rfl ?_
  refine hk.lens fun hl => ?_
  refine T_region ?_
  refine TL_y rfl rfl (Y_assign rfl) ?_
  refine TL_nil ?_
  refine T_seq ?_
  refine T_region ?_
  refine TL_y rfl rfl (Y_move rfl) ?_
  refine TL_y rfl rfl (Y_len rfl) ?_
  refine TL_y rfl rfl (Y_move rfl) ?_
  refine TL_y rfl rfl (Y_len rfl) ?_
  refine TL_y rfl rfl (Y_ne rfl rfl) ?_
  refine TL_nil ?_
  refine T_if rfl (fun h10 => ?_) (fun h10 => ?_)
  · refine T_region ?_
    refine TL_y rfl rfl (Y_assign rfl) ?_
    refine TL_nil ?_
    refine T_ret ?_
    refine thenS_ret ?_
    exact RetG_1 (.inl rfl) rfl (ResV.tmp rfl) GivesTo.g (⟨by rw [decide_eq_false]; rintro rfl; exact h10 rfl, rfl⟩)
  · refine T_skip ?_
    refine thenS_normal ?_
    refine T_seq ?_
    refine T_region ?_
    refine TL_y rfl rfl (Y_assign rfl) ?_
    refine TL_nil ?_
    refine T_block ?_
    refine T_loopK (σ := Nat) [0, 1] (fun i => i ≤ xs.length ∧ xs.take i = ys.take i) (fun i kv => (5, .int .i64 (i : Int)) :: kv) (fun i => L) (fun i => xs.length - i) (0) rfl (⟨Nat.zero_le _, rfl⟩) (GivesTo.g) (sub_cons rfl (sub_cons rfl (sub_cons rfl (sub_nil)))) ?_
    intro i hi
    have hxy : xs.length = ys.length := by omega
    refine T_seq ?_
    refine T_region ?_
    refine TL_y rfl rfl (Y_move rfl) ?_
    refine TL_y rfl rfl (Y_move rfl) ?_
    refine TL_y rfl rfl (Y_len rfl) ?_
    refine TL_y rfl rfl (Y_lt rfl rfl) ?_
    refine TL_nil ?_
    refine T_if rfl (fun h14 => ?_) (fun h14 => ?_)
    · refine T_skip ?_
      refine thenS_normal ?_
      refine T_seq ?_
      refine T_block ?_
      have h14' : i < xs.length := by omega
      have hx := List.getElem?_eq_getElem h14'
      have hy := List.getElem?_eq_getElem (show i < ys.length by omega)
      refine T_at_int hk hx fun b1 o1 hi1 ha1 => ?_
      refine T_at_int (hk2.tail) hy fun b2 o2 hi2 ha2 => ?_
      refine T_region_draw _ [0, 0, 3, 7, 0, 0, 48, 112, 255] [] [(0, true), (1, true), (2, true), (3, true), (4, true), (5, true), (6, true), (7, true), (8, true)] (by kernel_rfl) (by decide +kernel) (Gives.refl _) ?_
      refine TF_y rfl rfl (Y_move rfl) ?_
      refine TF_y rfl rfl (Y_move rfl) ?_
      refine TF_y rfl rfl (Y_index_at rfl rfl (by omega) ha1) ?_
      refine TF_y rfl rfl (Y_load_row rfl rfl) ?_
      refine TF_y rfl rfl (Y_move rfl) ?_
      refine TF_y rfl rfl (Y_move rfl) ?_
      refine TF_y rfl rfl (Y_index_at rfl rfl (by omega) ha2) ?_
      refine TF_y rfl rfl (Y_load_row rfl rfl) ?_
      refine TF_y rfl rfl (Y_ne rfl rfl) ?_
      refine TF_nil ?_
      refine T_if rfl (fun h25 => ?_) (fun h25 => ?_)
      · refine T_region ?_
        refine TL_y rfl rfl (Y_assign rfl) ?_
        refine TL_nil ?_
        refine T_ret ?_
        refine inB_ret ?_
        refine thenS_ret ?_
        refine thenS_ret ?_
        refine inB_ret ?_
        refine thenS_ret ?_
        exact RetG_1 (.inl rfl) rfl (ResV.tmp rfl) GivesTo.g (⟨by rw [decide_eq_false]; rintro rfl; exact h25 rfl, rfl⟩)
      · refine T_skip ?_
        refine inB_normal ?_
        refine thenS_normal ?_
        refine T_region_last ?_
        refine TL_y rfl rfl (Y_move rfl) ?_
        refine TL_y rfl rfl (Y_add rfl rfl (by simp only [maxEl] at hl; omega)) ?_
        refine TL_name 16 (v' := .int .i64 ((i + 1 : Nat) : Int)) rfl (by simp) ?_
        refine TL_y rfl rfl (Y_assign rfl) ?_
        refine TL_nil ?_
        refine thenS_normal ?_
        exact ⟨i + 1, ⟨by omega, by rw [List.take_add_one, List.take_add_one, hi.2, hx, hy, Classical.not_not.1 h25]⟩, by omega, holds_to (sub_cons rfl (sub_cons rfl (sub_cons rfl (sub_nil)))) GivesTo.g⟩
    · refine T_exit ?_
      refine thenS_exit ?_
      refine thenS_exit ?_
      refine inB_hit ?_
      refine thenS_normal ?_
      refine T_region ?_
      refine TL_y rfl rfl (Y_assign rfl) ?_
      refine TL_nil ?_
      refine T_ret ?_
      exact RetG_1 (.inl rfl) rfl (ResV.tmp rfl) GivesTo.g (⟨by rw [decide_eq_true]; have e1 := hi.2; rw [List.take_of_length_le (by omega), List.take_of_length_le (by omega)] at e1; exact e1, rfl⟩)
end Go.SL
