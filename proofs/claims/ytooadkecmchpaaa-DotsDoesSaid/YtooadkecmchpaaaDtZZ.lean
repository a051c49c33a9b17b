/- Dots: the law on whatever dots come: the walk. -/
import Derived.Test.YtooadkecmchpaaaDtZ
set_option linter.unusedVariables false
set_option linter.unusedSimpArgs false
namespace Go.SL
open Go Go.Proofs
structure DdSt where
  i : Nat
  b : Nat
  p : DsSTR
  l : List pairD
  X : Option Addr
  cx : Nat
theorem dotsDoes_walk {L : List HP} {A Av : Option Addr} {c cv : Nat} {ys : List pairD} {v : List Int} (ask : DotD) (hk : SlK L pairR A c ys) (hkv : SlK L (intR .i64) Av cv v) (hvl : v.length ≤ 17592186043904) : Fn Try.prog 5 #[.slice A ys.length c, .slice Av v.length cv, dotV ask] L (fun v L' => v = .bool true ∧ L' = L) := by
  refine Fn_enter Try.func5 rfl rfl rfl rfl ?_
  refine T_gives (SlK.lay (SlK.of_gives GivesTo.g hk)) ?_
  refine T_gives (SlK.lay (SlK.of_gives GivesTo.g hkv)) ?_
  refine (slk (A := A) (c := c) (R := pairR) (xs := ys)).lens fun hyl => ?_
  simp only [maxEl] at hyl
  refine T_region ?_
  refine TL_box rfl rfl rfl ?_
  intro b5
  refine TL_y rfl rfl (Y_assign rfl) ?_
  refine TL_nil ?_
  refine T_region ?_
  refine TL_call rfl rfl (newSTR_spec _) ?_
  rintro _ _ ⟨b15, p15, rfl, rfl⟩
  refine TL_y rfl rfl (Y_build rfl rfl) ?_
  refine TL_box rfl rfl rfl ?_
  intro b17
  refine TL_y rfl rfl (Y_assign rfl) ?_
  refine TL_y rfl rfl (Y_assign rfl) ?_
  refine TL_nil ?_
  refine T_seq ?_
  refine T_gives (osl_nil pairR 33 none _) ?_
  refine T_gives (rd_close (A := none) (c := 0) b17 []) ?_
  refine T_region ?_
  refine TL_call rfl rfl (lives09_spec _) ?_
  rintro _ _ ⟨rfl, rfl⟩
  refine TL_name 18 (v' := .bool true) rfl (rfl) ?_
  refine TL_y rfl rfl (Y_not_t rfl) ?_
  refine TL_y rfl rfl (Y_move rfl) ?_
  refine TL_grun rfl rfl ?_
  refine TL_y rfl rfl (Y_move rfl) ?_
  refine TL_grun rfl rfl ?_
  refine TL_y rfl rfl (Y_equal rfl rfl (EqIs.ptr_nil)) ?_
  refine TL_name 22 (v' := .bool false) rfl (by simp) ?_
  refine TL_y rfl rfl (Y_pick_f rfl rfl) ?_
  refine TL_nil ?_
  refine T_cond_false rfl ?_
  refine T_skip ?_
  refine thenS_normal ?_
  refine T_seq ?_
  refine T_region ?_
  refine TL_y rfl rfl (Y_assign rfl) ?_
  refine TL_nil ?_
  refine T_block ?_
  refine T_loopK (σ := DdSt) [0, 1, 5, 8] (fun g => g.i ≤ ys.length) (fun g kv => (9, .int .i64 (g.i : Int)) :: (7, .pointer (some ⟨g.b, 0, none⟩)) :: kv) (fun g => dsSTR g.b g.p g.l :: rd b17 g.X g.cx g.l :: sl pairR A c ys :: sl (intR .i64) Av cv v :: cells b5 (dotC ask) 31 :: L) (fun g => ys.length - g.i) (⟨0, b15, p15, [], none, 0⟩) rfl (Nat.zero_le _) (GivesTo.g) (sub_cons rfl (sub_cons rfl (sub_cons rfl (sub_cons rfl (sub_cons rfl (sub_cons rfl (sub_nil))))))) ?_
  rintro ⟨i, b, p, l, X, cx⟩ hil
  dsimp only at hil ⊢
  refine T_seq ?_
  refine T_region ?_
  refine TL_y rfl rfl (Y_move rfl) ?_
  refine TL_y rfl rfl (Y_move rfl) ?_
  refine TL_y rfl rfl (Y_len rfl) ?_
  refine TL_y rfl rfl (Y_lt rfl rfl) ?_
  refine TL_nil ?_
  refine T_if rfl (fun h27 => ?_) (fun h27 => ?_)
  · refine T_skip ?_
    refine thenS_normal ?_
    refine T_seq ?_
    refine T_block ?_
    refine T_seq ?_
    obtain ⟨u, hu⟩ : ∃ u, ys[i]? = some u := ⟨_, List.getElem?_eq_getElem (by omega)⟩
    refine T_elem_fact (sln (A := A) (c := c) (R := pairR)) hu (fun M l h => h.2) fun hou => ?_
    refine T_addr_n (sln (A := A) (c := c) (R := pairR)) hu fun bq oq eq => ?_
    subst eq
    refine T_dsSTRI fun hi => ?_
    refine T_region_draw (sl pairR (some ⟨bq, oq, none⟩) c ys :: []) [0, 0, 0, 6, 14, 30, 0, 0, 192, 448, 960, 2047, 0, 0, 0, 24576, 57344, 122880, 0, 0, 786432, 1835008, 3932160, 8388607, 16777215] [] [(0, true), (1, true), (2, true), (3, true), (4, true), (5, true), (6, true), (7, true), (8, true), (9, true), (10, true), (12, true), (13, true), (14, true), (15, true), (16, true), (17, true), (18, true), (19, true), (20, true), (21, true), (22, true), (11, false), (23, false), (24, true)] (by kernel_rfl) (by decide +kernel) GivesTo.g ?_
    refine TF_y rfl rfl (Y_move rfl) ?_
    refine TF_y rfl rfl (Y_move rfl) ?_
    refine TF_y rfl rfl (Y_move rfl) ?_
    refine TF_y rfl rfl (Y_index_n (R := pairR) (xs := ys) rfl rfl rfl hu) ?_
    refine TF_y rfl rfl (Y_field_addr2 rfl) ?_
    refine TF_y rfl rfl (Y_load_naf (R := pairR) (c := c) (xs := ys) (q := 0) (vs := dotC u.1) rfl sln hu rfl) ?_
    refine TF_y rfl rfl (Y_move rfl) ?_
    refine TF_y rfl rfl (Y_move rfl) ?_
    refine TF_y rfl rfl (Y_index_n (R := pairR) (xs := ys) rfl rfl rfl hu) ?_
    refine TF_y rfl rfl (Y_field_addr2 rfl) ?_
    refine TF_y rfl rfl (Y_load_n (R := pairR) (c := c) (xs := ys) (q := 2) rfl sln hu rfl) ?_
    refine TF_y rfl rfl (Y_move rfl) ?_
    refine TF_y rfl rfl (Y_move rfl) ?_
    refine TF_y rfl rfl (Y_move rfl) ?_
    refine TF_y rfl rfl (Y_index_n (R := pairR) (xs := ys) rfl rfl rfl hu) ?_
    refine TF_y rfl rfl (Y_field_addr2 rfl) ?_
    refine TF_y rfl rfl (Y_load_naf (R := pairR) (c := c) (xs := ys) (q := 0) (vs := dotC u.1) rfl sln hu rfl) ?_
    refine TF_y rfl rfl (Y_move rfl) ?_
    refine TF_y rfl rfl (Y_move rfl) ?_
    refine TF_y rfl rfl (Y_index_n (R := pairR) (xs := ys) rfl rfl rfl hu) ?_
    refine TF_y rfl rfl (Y_field_addr2 rfl) ?_
    refine TF_y rfl rfl (Y_load_n (R := pairR) (c := c) (xs := ys) (q := 2) rfl sln hu rfl) ?_
    refine TF_anchor rfl ?_
    refine TL_pullk b ?_
    refine TL_call rfl rfl (addSTR_spec u.1 u.2 hou.2) ?_
    rintro _ _ ⟨rfl, rfl⟩
    refine TF_end GivesTo.g ?_
    refine TF_anchor rfl ?_
    refine TL_pullk b17 ?_
    refine TL_call rfl rfl (refAddD_spec u.1 u.2 hi hou.2) ?_
    rintro _ _ ⟨X2, cx2, rfl, rfl⟩
    refine TF_end GivesTo.g ?_
    refine TF_y rfl rfl (Y_ne rfl rfl) ?_
    refine TF_name 54 (v' := .bool false) rfl (congrArg Value.bool (decide_eq_false (by simp))) ?_
    refine TF_nil ?_
    refine T_cond_false rfl ?_
    refine T_skip ?_
    refine thenS_normal ?_
    refine T_region ?_
    refine TL_y rfl rfl (Y_move rfl) ?_
    refine TL_y rfl rfl (Y_rem rfl rfl (by decide)) ?_
    refine TL_y rfl rfl (Y_eq rfl rfl) ?_
    refine TL_nil ?_
    refine T_if rfl (fun h57 => ?_) (fun h57 => ?_)
    · refine T_region ?_
      refine TL_y rfl rfl (Y_move rfl) ?_
      refine TL_pullk b ?_
      refine TL_call rfl rfl (forkSTR_spec) ?_
      rintro _ _ ⟨b2, p2, rfl, rfl⟩
      refine TL_y rfl rfl (Y_assign rfl) ?_
      refine TL_nil ?_
      refine T_seq ?_
      refine T_region ?_
      refine TL_y rfl rfl (Y_move rfl) ?_
      refine TL_y rfl rfl (Y_equal rfl rfl (EqIs.ptr_nil)) ?_
      refine TL_name 61 (v' := .bool false) rfl (by simp) ?_
      refine TL_nil ?_
      refine T_cond_false rfl ?_
      refine T_skip ?_
      refine thenS_normal ?_
      refine T_region ?_
      refine TL_y rfl rfl (Y_move rfl) ?_
      refine TL_y rfl rfl (Y_build rfl rfl) ?_
      refine TL_pullk b ?_
      refine TL_call rfl rfl (addSTR_spec (6, 9) ⟨#[111, 116, 104, 101, 114]⟩ (by decide)) ?_
      rintro _ _ ⟨rfl, rfl⟩
      refine TL_nil ?_
      refine T_region_last ?_
      refine TL_y rfl rfl (Y_move rfl) ?_
      refine TL_y rfl rfl (Y_assign rfl) ?_
      refine TL_nil ?_
      refine inB_normal ?_
      refine thenS_normal ?_
      refine T_region_last ?_
      refine TL_y rfl rfl (Y_move rfl) ?_
      refine TL_y rfl rfl (Y_add rfl rfl (by omega)) ?_
      refine TL_name 29 (v' := .int .i64 ((i + 1 : Nat) : Int)) rfl (rfl) ?_
      refine TL_y rfl rfl (Y_assign rfl) ?_
      refine TL_nil ?_
      refine thenS_normal ?_
      exact ⟨⟨i + 1, b2, p2, (addS l u.1 u.2).1, X2, cx2⟩, (by simp only; omega), by simp only; omega, holds_to (sub_cons rfl (sub_cons rfl (sub_cons rfl (sub_cons rfl (sub_cons rfl (sub_cons rfl (sub_nil))))))) GivesTo.g⟩
    · refine T_skip ?_
      refine inB_normal ?_
      refine thenS_normal ?_
      refine T_region_last ?_
      refine TL_y rfl rfl (Y_move rfl) ?_
      refine TL_y rfl rfl (Y_add rfl rfl (by omega)) ?_
      refine TL_name 29 (v' := .int .i64 ((i + 1 : Nat) : Int)) rfl (rfl) ?_
      refine TL_y rfl rfl (Y_assign rfl) ?_
      refine TL_nil ?_
      refine thenS_normal ?_
      exact ⟨⟨i + 1, b, p, (addS l u.1 u.2).1, X2, cx2⟩, (by simp only; omega), by simp only; omega, holds_to (sub_cons rfl (sub_cons rfl (sub_cons rfl (sub_cons rfl (sub_cons rfl (sub_cons rfl (sub_nil))))))) GivesTo.g⟩
  · refine T_exit ?_
    refine thenS_exit ?_
    refine thenS_exit ?_
    refine inB_hit ?_
    refine thenS_normal ?_
    refine T_pullk b ?_
    refine T_dsSTRI fun hi => ?_
    refine T_region ?_
    refine TL_y rfl rfl (Y_move rfl) ?_
    refine TL_y rfl rfl (Y_load_agg rfl rfl) ?_
    refine TL_pullk b ?_
    refine TL_call rfl rfl (getSTR_spec ask) ?_
    rintro _ _ ⟨rfl, rfl⟩
    refine TL_y rfl rfl (Y_move rfl) ?_
    refine TL_y rfl rfl (Y_extract rfl rfl) ?_
    refine TL_y rfl rfl (Y_extract rfl rfl) ?_
    refine TL_y rfl rfl (Y_assign rfl) ?_
    refine TL_y rfl rfl (Y_assign rfl) ?_
    refine TL_nil ?_
    refine T_region ?_
    refine TL_y rfl rfl (Y_move rfl) ?_
    refine TL_y rfl rfl (Y_load_agg rfl rfl) ?_
    refine TL_pullk b17 ?_
    refine TL_call rfl rfl (refGetD_spec ask) ?_
    rintro _ _ ⟨rfl, rfl⟩
    refine TL_y rfl rfl (Y_move rfl) ?_
    refine TL_y rfl rfl (Y_extract rfl rfl) ?_
    refine TL_y rfl rfl (Y_extract rfl rfl) ?_
    refine TL_y rfl rfl (Y_assign rfl) ?_
    refine TL_y rfl rfl (Y_assign rfl) ?_
    refine TL_nil ?_
    refine T_region ?_
    refine TL_y rfl rfl (Y_move rfl) ?_
    refine TL_y rfl rfl (Y_move rfl) ?_
    refine TL_y rfl rfl (Y_str_eq rfl rfl) ?_
    refine TL_name 80 (v' := .bool true) rfl (congrArg Value.bool (decide_eq_true rfl)) ?_
    refine TL_y rfl rfl (Y_move rfl) ?_
    refine TL_grun rfl rfl ?_
    refine TL_y rfl rfl (Y_move rfl) ?_
    refine TL_grun rfl rfl ?_
    refine TL_y rfl rfl (Y_move rfl) ?_
    refine TL_grun rfl rfl ?_
    refine TL_y rfl rfl (Y_equal rfl rfl (EqIs.bool)) ?_
    refine TL_name 84 (v' := .bool true) rfl (congrArg Value.bool (by simp)) ?_
    refine TL_y rfl rfl (Y_pick_t rfl rfl) ?_
    refine TL_y rfl rfl (Y_move rfl) ?_
    refine TL_grun rfl rfl ?_
    refine TL_y rfl rfl (Y_move rfl) ?_
    refine TL_grun rfl rfl ?_
    refine TL_y rfl rfl (Y_move rfl) ?_
    refine TL_grun rfl rfl ?_
    refine TL_y rfl rfl (Y_move rfl) ?_
    refine TL_grun rfl rfl ?_
    refine TL_pullk b17 ?_
    refine TL_pullk b ?_
    refine TL_call rfl rfl (looks09_spec hi slk hvl) ?_
    rintro _ _ ⟨rfl, rfl⟩
    refine TL_name 90 (v' := .bool true) rfl (rfl) ?_
    refine TL_y rfl rfl (Y_pick_t rfl rfl) ?_
    refine TL_y rfl rfl (Y_assign rfl) ?_
    refine TL_nil ?_
    refine T_ret ?_
    exact RetG_1 (.inl rfl) rfl (ResV.tmp rfl) GivesTo.g (⟨rfl, rfl⟩)
end Go.SL
