/- Ballots: which is greater, the next one. -/
import Derived.Test.YtibejpgjgkeheaaBalB
set_option linter.unusedVariables false
set_option linter.unusedSimpArgs false
namespace Go.SL
open Go Go.Proofs

def cmpI (x y : Int) : Int := if x < y then -1 else if y < x then 1 else 0
def orI : List Int → Int
  | [] => 0
  | x :: l => if x ≠ 0 then x else orI l
theorem isNaN_spec (x : Int) (L : List HP) : Fn Try.prog 99 #[.int .i64 x] L (fun v L' => v = .bool false ∧ L' = L) := by
  refine Fn_enter Try.func99 rfl rfl rfl rfl ?_
  refine T_region ?_
  refine TL_y rfl rfl (Y_assign rfl) ?_
  refine TL_nil ?_
  refine T_region ?_
  refine TL_y rfl rfl (Y_move rfl) ?_
  refine TL_y rfl rfl (Y_move rfl) ?_
  refine TL_y rfl rfl (Y_ne rfl rfl) ?_
  refine TL_y rfl rfl (Y_assign rfl) ?_
  refine TL_nil ?_
  refine T_ret ?_
  exact RetG_1 (.inl rfl) rfl (ResV.tmp rfl) GivesTo.g (⟨by simp, rfl⟩)
theorem cmpInt_spec (x y : Int) (L : List HP) : Fn Try.prog 66 #[.int .i64 x, .int .i64 y] L (fun v L' => v = .int .i64 (cmpI x y) ∧ L' = L) := by
  refine Fn_enter Try.func66 rfl rfl rfl rfl ?_
  refine T_region ?_
  refine TL_y rfl rfl (Y_assign rfl) ?_
  refine TL_nil ?_
  refine T_region ?_
  refine TL_y rfl rfl (Y_move rfl) ?_
  refine TL_call rfl rfl (isNaN_spec _ _) ?_
  rintro _ _ ⟨rfl, rfl⟩
  refine TL_name 8 (v' := .bool false) rfl (rfl) ?_
  refine TL_y rfl rfl (Y_assign rfl) ?_
  refine TL_nil ?_
  refine T_region ?_
  refine TL_y rfl rfl (Y_move rfl) ?_
  refine TL_call rfl rfl (isNaN_spec _ _) ?_
  rintro _ _ ⟨rfl, rfl⟩
  refine TL_name 10 (v' := .bool false) rfl (rfl) ?_
  refine TL_y rfl rfl (Y_assign rfl) ?_
  refine TL_nil ?_
  refine T_seq ?_
  refine T_region ?_
  refine TL_y rfl rfl (Y_move rfl) ?_
  refine TL_nil ?_
  refine T_cond_false rfl ?_
  refine T_skip ?_
  refine thenS_normal ?_
  refine T_seq ?_
  refine T_region ?_
  refine TL_y rfl rfl (Y_move rfl) ?_
  refine TL_nil ?_
  refine T_cond_false rfl ?_
  refine T_skip ?_
  refine thenS_normal ?_
  refine T_seq ?_
  refine T_region ?_
  refine TL_y rfl rfl (Y_move rfl) ?_
  refine TL_y rfl rfl (Y_move rfl) ?_
  refine TL_y rfl rfl (Y_lt rfl rfl) ?_
  refine TL_nil ?_
  refine T_if rfl (fun h16 => ?_) (fun h16 => ?_)
  · refine T_region ?_
    refine TL_y rfl rfl (Y_assign rfl) ?_
    refine TL_nil ?_
    refine T_ret ?_
    refine thenS_ret ?_
    exact RetG_1 (.inl rfl) rfl (ResV.tmp rfl) GivesTo.g (⟨by rw [cmpI, if_pos h16], rfl⟩)
  · refine T_skip ?_
    refine thenS_normal ?_
    refine T_seq ?_
    refine T_region ?_
    refine TL_y rfl rfl (Y_move rfl) ?_
    refine TL_y rfl rfl (Y_move rfl) ?_
    refine TL_y rfl rfl (Y_gt rfl rfl) ?_
    refine TL_nil ?_
    refine T_if rfl (fun h19 => ?_) (fun h19 => ?_)
    · refine T_region ?_
      refine TL_y rfl rfl (Y_assign rfl) ?_
      refine TL_nil ?_
      refine T_ret ?_
      refine thenS_ret ?_
      exact RetG_1 (.inl rfl) rfl (ResV.tmp rfl) GivesTo.g (⟨by rw [cmpI, if_neg h16, if_pos h19], rfl⟩)
    · refine T_skip ?_
      refine thenS_normal ?_
      refine T_region ?_
      refine TL_y rfl rfl (Y_assign rfl) ?_
      refine TL_nil ?_
      refine T_ret ?_
      exact RetG_1 (.inl rfl) rfl (ResV.tmp rfl) GivesTo.g (⟨by rw [cmpI, if_neg h16, if_neg h19], rfl⟩)
theorem or_spec {L : List HP} {A : Option Addr} {c : Nat} {l : List Int} (hk : SlK L (intR .i64) A c l) : Fn Try.prog 65 #[.slice A l.length c] L (fun v L' => v = .int .i64 (orI l) ∧ L' = L) := by
  refine Fn_enter Try.func65 rfl rfl rfl rfl ?_
  refine hk.lens fun hl => ?_
  simp only [maxEl] at hl
  refine T_region ?_
  refine TL_y rfl rfl (Y_assign rfl) ?_
  refine TL_nil ?_
  refine T_region ?_
  refine TL_y rfl rfl (Y_assign rfl) ?_
  refine TL_nil ?_
  refine T_seq ?_
  refine T_region ?_
  refine TL_y rfl rfl (Y_move rfl) ?_
  refine TL_y rfl rfl (Y_len rfl) ?_
  refine TL_y rfl rfl (Y_move rfl) ?_
  refine TL_nil ?_
  refine T_block ?_
  refine T_loopK (σ := Nat) [3, 6, 7] (fun i => i ≤ l.length ∧ orI l = orI (l.drop i)) (fun i kv => (8, .int .i64 (i : Int)) :: kv) (fun i => L) (fun i => l.length - i) (0) rfl (⟨Nat.zero_le _, rfl⟩) (GivesTo.g) (sub_cons rfl (sub_cons rfl (sub_cons rfl (sub_cons rfl (sub_nil))))) ?_
  intro i hi
  refine T_region ?_
  refine TL_y rfl rfl (Y_lt rfl rfl) ?_
  refine TL_nil ?_
  refine T_seq ?_
  refine T_if rfl (fun h9 => ?_) (fun h9 => ?_)
  · refine T_skip ?_
    refine thenS_normal ?_
    refine T_seq ?_
    refine T_block ?_
    refine T_region ?_
    obtain ⟨u, hu⟩ : ∃ u, l[i]? = some u := ⟨_, List.getElem?_eq_getElem (by omega)⟩
    have hor : orI l = if u ≠ 0 then u else orI (l.drop (i + 1)) := by rw [hi.2, List.drop_eq_getElem_cons (List.getElem?_eq_some_iff.1 hu).1, (List.getElem?_eq_some_iff.1 hu).2]; rfl
    refine TL_index_int rfl rfl rfl hk hu ?_
    intro hi10 bi10 oi10
    refine TL_y rfl rfl (Y_load_row rfl rfl) ?_
    refine TL_y rfl rfl (Y_assign rfl) ?_
    refine TL_nil ?_
    refine T_region ?_
    refine TL_y rfl rfl (Y_move rfl) ?_
    refine TL_y rfl rfl (Y_move rfl) ?_
    refine TL_y rfl rfl (Y_ne rfl rfl) ?_
    refine TL_nil ?_
    refine T_if rfl (fun h14 => ?_) (fun h14 => ?_)
    · refine T_region ?_
      refine TL_y rfl rfl (Y_move rfl) ?_
      refine TL_y rfl rfl (Y_assign rfl) ?_
      refine TL_nil ?_
      refine T_ret ?_
      refine inB_ret ?_
      refine thenS_ret ?_
      refine thenS_ret ?_
      refine inB_ret ?_
      refine thenS_ret ?_
      exact RetG_1 (.inl rfl) rfl (ResV.tmp rfl) GivesTo.g (⟨by rw [hor, if_pos h14], rfl⟩)
    · refine T_skip ?_
      refine inB_normal ?_
      refine thenS_normal ?_
      refine T_region_last ?_
      refine TL_y rfl rfl (Y_add rfl rfl (by omega)) ?_
      refine TL_name 16 (v' := .int .i64 ((i + 1 : Nat) : Int)) rfl (rfl) ?_
      refine TL_y rfl rfl (Y_move rfl) ?_
      refine TL_nil ?_
      refine thenS_normal ?_
      exact ⟨i + 1, ⟨by omega, by rw [hor, if_neg h14]⟩, by omega, holds_to (sub_cons rfl (sub_cons rfl (sub_cons rfl (sub_cons rfl (sub_nil))))) GivesTo.g⟩
  · refine T_exit ?_
    refine thenS_exit ?_
    refine thenS_exit ?_
    refine inB_hit ?_
    refine thenS_normal ?_
    refine T_region ?_
    refine TL_y rfl rfl (Y_move rfl) ?_
    refine TL_y rfl rfl (Y_assign rfl) ?_
    refine TL_nil ?_
    refine T_ret ?_
    exact RetG_1 (.inl rfl) rfl (ResV.tmp rfl) GivesTo.g (⟨by rw [hi.2, List.drop_of_length_le (by omega)]; rfl, rfl⟩)

/-- Which ballot is greater. -/
def cmpB (a b : Int × Int) : Int := if a.1 < b.1 then -1 else if b.1 < a.1 then 1 else cmpI a.2 b.2
theorem cmpB_or (a b : Int × Int) : orI [cmpI a.1 b.1, cmpI a.2 b.2] = cmpB a b := by
  unfold cmpB orI
  by_cases h1 : a.1 < b.1
  · have e : cmpI a.1 b.1 = -1 := by rw [cmpI, if_pos h1]
    rw [e, if_pos (by decide), if_pos h1]
  · by_cases h2 : b.1 < a.1
    · have e : cmpI a.1 b.1 = 1 := by rw [cmpI, if_neg h1, if_pos h2]
      rw [e, if_pos (by decide), if_neg h1, if_pos h2]
    · have e : cmpI a.1 b.1 = 0 := by rw [cmpI, if_neg h1, if_neg h2]
      rw [e, if_neg (by decide), if_neg h1, if_neg h2]
      unfold orI orI
      by_cases h3 : cmpI a.2 b.2 = 0
      · rw [if_neg (by simpa using h3), h3]
      · rw [if_pos h3]
theorem cmpI_in (x y : Int) : -1 ≤ cmpI x y ∧ cmpI x y ≤ 1 := by
  unfold cmpI; split <;> (try split) <;> decide
theorem cmpB_in (a b : Int × Int) : -1 ≤ cmpB a b ∧ cmpB a b ≤ 1 := by
  have := cmpI_in a.2 b.2
  unfold cmpB; split
  · decide
  · split
    · decide
    · exact this
/-- A ballot as a value. -/
abbrev balV (a : Int × Int) : Value := .agg #[.int .i64 a.1, .int .i64 a.2]
theorem compare_spec (a b : Int × Int) (L : List HP) : Fn Try.prog 24 #[balV a, balV b] L (fun v L' => v = .int .i64 (cmpB a b) ∧ L' = L) := by
  have h1 := cmpI_in a.1 b.1
  have h2 := cmpI_in a.2 b.2
  refine Fn_enter Try.func24 rfl rfl rfl rfl ?_
  refine T_region ?_
  refine TL_box rfl rfl rfl ?_
  intro b2
  refine TL_box rfl rfl rfl ?_
  intro b3
  refine TL_y rfl rfl (Y_assign rfl) ?_
  refine TL_nil ?_
  refine T_region_draw _ [0, 1, 0, 4, 15, 0, 32, 0, 128, 511, 1023, 2047, 4095] [] [(0, true), (1, true), (2, true), (3, true), (5, true), (6, true), (7, true), (8, true), (4, false), (9, false), (10, false), (11, false), (12, true)] (by kernel_rfl) (by decide +kernel) (Gives.refl _) ?_
  refine TF_y rfl rfl (Y_field_addr rfl) ?_
  refine TF_y rfl rfl (Y_load rfl rfl) ?_
  refine TF_y rfl rfl (Y_field_addr rfl) ?_
  refine TF_y rfl rfl (Y_load rfl rfl) ?_
  refine TF_y rfl rfl (Y_field_addr rfl) ?_
  refine TF_y rfl rfl (Y_load rfl rfl) ?_
  refine TF_y rfl rfl (Y_field_addr rfl) ?_
  refine TF_y rfl rfl (Y_load rfl rfl) ?_
  refine TF_anchor rfl ?_
  refine TL_call rfl rfl (cmpInt_spec _ _ _) ?_
  rintro _ _ ⟨rfl, rfl⟩
  refine TF_end GivesTo.g ?_
  refine TF_anchor rfl ?_
  refine TL_call rfl rfl (cmpInt_spec _ _ _) ?_
  rintro _ _ ⟨rfl, rfl⟩
  refine TF_end GivesTo.g ?_
  refine TF_anchor rfl ?_
  refine TL_build_slice rfl rfl rfl rfl rfl rfl ?_
  intro b15
  refine TL_osl (k := 2) (intR .i64) [cmpI a.1 b.1, cmpI a.2 b.2] (Knows.const fun M => cells_ints (k := .i64) (xs := [cmpI a.1 b.1, cmpI a.2 b.2]) (by intro x hx; simp at hx; rcases hx with rfl | rfl <;> exact i64In_mk (by omega)) M) rfl (by simp) ?_
  refine TL_freeze_osl ?_
  refine TL_name 15 (v' := .slice (some ⟨b15, 0, none⟩) [cmpI a.1 b.1, cmpI a.2 b.2].length 2) rfl rfl ?_
  refine TF_end GivesTo.g ?_
  refine TF_anchor rfl ?_
  refine TL_call rfl rfl (or_spec slk) ?_
  rintro _ _ ⟨rfl, rfl⟩
  refine TF_end GivesTo.g ?_
  refine TF_y rfl rfl (Y_assign rfl) ?_
  refine TF_nil ?_
  refine T_ret ?_
  exact RetG_1 (.inl rfl) rfl (ResV.tmp rfl) GivesTo.g (⟨by rw [cmpB_or], rfl⟩)
theorem refCompare_spec (a b : Int × Int) (L : List HP) : Fn Try.prog 53 #[balV a, balV b] L (fun v L' => v = .int .i64 (cmpB a b) ∧ L' = L) := by
  refine Fn_enter Try.func53 rfl rfl rfl rfl ?_
  refine T_region ?_
  refine TL_box rfl rfl rfl ?_
  intro b2
  refine TL_box rfl rfl rfl ?_
  intro b3
  refine TL_y rfl rfl (Y_assign rfl) ?_
  refine TL_nil ?_
  refine T_region_draw _ [0, 1, 0, 4, 3, 31] [] [(0, true), (1, true), (2, true), (3, true), (4, true), (5, true)] (by kernel_rfl) (by decide +kernel) (Gives.refl _) ?_
  refine TF_y rfl rfl (Y_field_addr rfl) ?_
  refine TF_y rfl rfl (Y_load rfl rfl) ?_
  refine TF_y rfl rfl (Y_field_addr rfl) ?_
  refine TF_y rfl rfl (Y_load rfl rfl) ?_
  refine TF_y rfl rfl (Y_assign rfl) ?_
  refine TF_y rfl rfl (Y_assign rfl) ?_
  refine TF_nil ?_
  refine T_seq ?_
  refine T_region ?_
  refine TL_y rfl rfl (Y_move rfl) ?_
  refine TL_y rfl rfl (Y_move rfl) ?_
  refine TL_y rfl rfl (Y_eq rfl rfl) ?_
  refine TL_nil ?_
  refine T_if rfl (fun h13 => ?_) (fun h13 => ?_)
  · refine T_region_draw_last _ [0, 1, 0, 4, 3, 31] [] [(0, true), (1, true), (2, true), (3, true), (4, true), (5, true)] (by kernel_rfl) (by decide +kernel) (Gives.refl _) ?_
    refine TF_y rfl rfl (Y_field_addr rfl) ?_
    refine TF_y rfl rfl (Y_load rfl rfl) ?_
    refine TF_y rfl rfl (Y_field_addr rfl) ?_
    refine TF_y rfl rfl (Y_load rfl rfl) ?_
    refine TF_y rfl rfl (Y_assign rfl) ?_
    refine TF_y rfl rfl (Y_assign rfl) ?_
    refine TF_nil ?_
    refine thenS_normal ?_
    refine T_seq ?_
    refine T_region ?_
    refine TL_y rfl rfl (Y_move rfl) ?_
    refine TL_y rfl rfl (Y_move rfl) ?_
    refine TL_y rfl rfl (Y_lt rfl rfl) ?_
    refine TL_nil ?_
    refine T_if rfl (fun h20 => ?_) (fun h20 => ?_)
    · refine T_region ?_
      refine TL_y rfl rfl (Y_assign rfl) ?_
      refine TL_nil ?_
      refine T_ret ?_
      refine thenS_ret ?_
      exact RetG_1 (.inl rfl) rfl (ResV.tmp rfl) GivesTo.g (⟨by rw [cmpB, if_neg (by omega), if_neg (by omega), cmpI, if_pos h20], rfl⟩)
    · refine T_skip ?_
      refine thenS_normal ?_
      refine T_seq ?_
      refine T_region ?_
      refine TL_y rfl rfl (Y_move rfl) ?_
      refine TL_y rfl rfl (Y_move rfl) ?_
      refine TL_y rfl rfl (Y_gt rfl rfl) ?_
      refine TL_nil ?_
      refine T_if rfl (fun h23 => ?_) (fun h23 => ?_)
      · refine T_region ?_
        refine TL_y rfl rfl (Y_assign rfl) ?_
        refine TL_nil ?_
        refine T_ret ?_
        refine thenS_ret ?_
        exact RetG_1 (.inl rfl) rfl (ResV.tmp rfl) GivesTo.g (⟨by rw [cmpB, if_neg (by omega), if_neg (by omega), cmpI, if_neg h20, if_pos h23], rfl⟩)
      · refine T_skip ?_
        refine thenS_normal ?_
        refine T_region ?_
        refine TL_y rfl rfl (Y_assign rfl) ?_
        refine TL_nil ?_
        refine T_ret ?_
        exact RetG_1 (.inl rfl) rfl (ResV.tmp rfl) GivesTo.g (⟨by rw [cmpB, if_neg (by omega), if_neg (by omega), cmpI, if_neg h20, if_neg h23], rfl⟩)
  · refine T_skip ?_
    refine thenS_normal ?_
    refine T_seq ?_
    refine T_region ?_
    refine TL_y rfl rfl (Y_move rfl) ?_
    refine TL_y rfl rfl (Y_move rfl) ?_
    refine TL_y rfl rfl (Y_lt rfl rfl) ?_
    refine TL_nil ?_
    refine T_if rfl (fun h20 => ?_) (fun h20 => ?_)
    · refine T_region ?_
      refine TL_y rfl rfl (Y_assign rfl) ?_
      refine TL_nil ?_
      refine T_ret ?_
      refine thenS_ret ?_
      exact RetG_1 (.inl rfl) rfl (ResV.tmp rfl) GivesTo.g (⟨by rw [cmpB, if_pos h20], rfl⟩)
    · refine T_skip ?_
      refine thenS_normal ?_
      refine T_seq ?_
      refine T_region ?_
      refine TL_y rfl rfl (Y_move rfl) ?_
      refine TL_y rfl rfl (Y_move rfl) ?_
      refine TL_y rfl rfl (Y_gt rfl rfl) ?_
      refine TL_nil ?_
      refine T_if rfl (fun h23 => ?_) (fun h23 => ?_)
      · refine T_region ?_
        refine TL_y rfl rfl (Y_assign rfl) ?_
        refine TL_nil ?_
        refine T_ret ?_
        refine thenS_ret ?_
        exact RetG_1 (.inl rfl) rfl (ResV.tmp rfl) GivesTo.g (⟨by rw [cmpB, if_neg h20, if_pos h23], rfl⟩)
      · refine T_skip ?_
        refine thenS_normal ?_
        refine T_region ?_
        refine TL_y rfl rfl (Y_assign rfl) ?_
        refine TL_nil ?_
        refine T_ret ?_
        exact RetG_1 (.inl rfl) rfl (ResV.tmp rfl) GivesTo.g (⟨by exact absurd (show a.1 = b.1 by omega) h13, rfl⟩)
end Go.SL
