/- Dots: what must come of every program; nobody's set. -/
import Derived.Test.YtooadkecmchpaaaDtH
set_option linter.unusedVariables false
set_option linter.unusedSimpArgs false
namespace Go.SL
open Go Go.Proofs
instance {f : Go.Fn} {a c : Array Value} : EqBy (.func f a c) .nilFunc := ⟨fun t => by simp only [binOp], fun t => by simp only [binOp], fun op t x y => by cases op <;> rfl⟩
theorem EqIs.func_nil {P : Program} {t : TypeId} {f : Go.Fn} {a c : Array Value} {ps rs : Array TypeId} {vr : Bool} [ht : TyDesc P t (.func ps rs vr)] : EqIs P t (.func f a c) .nilFunc false := fun d w => by
  simp [Op.equalIn, ht.run]
abbrev dz1 : List (DotD × tSTR) := [((0, 1), ⟨#[97]⟩)]
abbrev dz2 : List (DotD × tSTR) := [((0, 1), ⟨#[97]⟩), ((0, 3), ⟨#[99]⟩)]
theorem dz_1 : addS ([] : List (DotD × tSTR)) (0, 1) ⟨#[97]⟩ = (dz1, 0) := by decide +kernel
theorem dz_2 : addS dz1 (0, 3) ⟨#[99]⟩ = (dz2, 0) := by decide +kernel
theorem dz_3 : addS dz2 (0, 1) ⟨#[120]⟩ = (dz2, 5) := by decide +kernel
theorem dz_4 : getVSTR dz2 (0, 3) = ⟨#[99]⟩ := by decide +kernel
theorem dz_5 : (getM dz2 (0, 3)).isSome = true := by decide +kernel
theorem dz_6 : plainV (vecL dz2) = [1] := by decide +kernel
theorem dz_7 : extraD dz2 = [(0, 3)] := by decide +kernel
theorem one_str (n : UInt8) : okSTR ⟨#[n]⟩ := by show (1 : Nat) ≤ maxEl; decide
theorem lives09_spec (L : List HP) : Fn Try.prog 14 #[] L (fun v L' => v = .bool true ∧ L' = L) := by
  refine Fn_enter Try.func14 rfl rfl rfl rfl ?_
  refine T_region ?_
  refine TL_y rfl rfl (Y_assign rfl) ?_
  refine TL_nil ?_
  refine T_region ?_
  refine TL_call rfl rfl (newSTR_spec _) ?_
  rintro _ _ ⟨b9, p9, rfl, rfl⟩
  refine TL_y rfl rfl (Y_assign rfl) ?_
  refine TL_nil ?_
  refine T_seq ?_
  refine T_region ?_
  refine TL_y rfl rfl (Y_move rfl) ?_
  refine TL_y rfl rfl (Y_equal rfl rfl (EqIs.ptr_nil)) ?_
  refine TL_name 11 (v' := .bool false) rfl (by simp) ?_
  refine TL_y rfl rfl (Y_move rfl) ?_
  refine TL_grun rfl rfl ?_
  refine TL_y rfl rfl (Y_move rfl) ?_
  refine TL_grun rfl rfl ?_
  refine TL_call rfl rfl (allSTR_spec rfl rfl) ?_
  rintro _ _ ⟨bn, bw, rfl, rfl⟩
  refine TL_grun rfl rfl ?_
  refine TL_y rfl rfl (Y_equal rfl rfl (EqIs.func_nil)) ?_
  refine TL_name 15 (v' := .bool false) rfl (rfl) ?_
  refine TL_y rfl rfl (Y_pick_f rfl rfl) ?_
  refine TL_y rfl rfl (Y_move rfl) ?_
  refine TL_grun rfl rfl ?_
  refine TL_y rfl rfl (Y_move rfl) ?_
  refine TL_grun rfl rfl ?_
  refine TL_call rfl rfl (uptoSTR_spec (v := []) rfl rfl .nil (by decide)) ?_
  rintro _ _ ⟨bn2, bw2, bo2, A2, c2, rfl, rfl⟩
  refine TL_grun rfl rfl ?_
  refine TL_y rfl rfl (Y_equal rfl rfl (EqIs.func_nil)) ?_
  refine TL_name 20 (v' := .bool false) rfl (rfl) ?_
  refine TL_y rfl rfl (Y_pick_f rfl rfl) ?_
  refine TL_nil ?_
  refine T_cond_false rfl ?_
  refine T_skip ?_
  refine thenS_normal ?_
  refine T_region ?_
  refine TL_y rfl rfl (Y_move rfl) ?_
  refine TL_y rfl rfl (Y_build rfl rfl) ?_
  refine TL_pullk b9 ?_
  refine TL_call rfl rfl (addSTR_spec (l := []) (0, 1) ⟨#[97]⟩ (one_str _)) ?_
  rintro _ _ ⟨rfl, rfl⟩
  rw [dz_1]
  refine TL_y rfl rfl (Y_assign rfl) ?_
  refine TL_nil ?_
  refine T_region ?_
  refine TL_y rfl rfl (Y_move rfl) ?_
  refine TL_y rfl rfl (Y_build rfl rfl) ?_
  refine TL_pullk b9 ?_
  refine TL_call rfl rfl (addSTR_spec (l := dz1) (0, 3) ⟨#[99]⟩ (one_str _)) ?_
  rintro _ _ ⟨rfl, rfl⟩
  rw [dz_2]
  refine TL_y rfl rfl (Y_assign rfl) ?_
  refine TL_nil ?_
  refine T_region ?_
  refine TL_y rfl rfl (Y_move rfl) ?_
  refine TL_y rfl rfl (Y_build rfl rfl) ?_
  refine TL_pullk b9 ?_
  refine TL_call rfl rfl (addSTR_spec (l := dz2) (0, 1) ⟨#[120]⟩ (one_str _)) ?_
  rintro _ _ ⟨rfl, rfl⟩
  rw [dz_3]
  refine TL_y rfl rfl (Y_assign rfl) ?_
  refine TL_nil ?_
  refine T_region ?_
  refine TL_y rfl rfl (Y_move rfl) ?_
  refine TL_y rfl rfl (Y_build rfl rfl) ?_
  refine TL_pullk b9 ?_
  refine TL_call rfl rfl (getSTR_spec (l := dz2) (0, 3)) ?_
  rintro _ _ ⟨rfl, rfl⟩
  rw [dz_4, dz_5]
  refine TL_y rfl rfl (Y_move rfl) ?_
  refine TL_y rfl rfl (Y_extract rfl rfl) ?_
  refine TL_y rfl rfl (Y_extract rfl rfl) ?_
  refine TL_y rfl rfl (Y_assign rfl) ?_
  refine TL_y rfl rfl (Y_assign rfl) ?_
  refine TL_nil ?_
  refine T_region ?_
  refine TL_y rfl rfl (Y_move rfl) ?_
  refine TL_pullk b9 ?_
  refine TL_call rfl rfl (vectorSTR_spec (l := dz2)) ?_
  rintro _ _ ⟨A38, c38, rfl, rfl⟩
  rw [dz_6]
  refine TL_freeze_osl ?_
  refine TL_y rfl rfl (Y_move rfl) ?_
  refine TL_pullk b9 ?_
  refine TL_call rfl rfl (extrasSTR_spec (l := dz2)) ?_
  rintro _ _ ⟨A40, c40, rfl, rfl⟩
  rw [dz_7]
  refine TL_y rfl rfl (Y_assign rfl) ?_
  refine TL_y rfl rfl (Y_assign rfl) ?_
  refine TL_nil ?_
  refine T_region ?_
  refine TL_y rfl rfl (Y_move rfl) ?_
  refine TL_y rfl rfl (Y_eq rfl rfl) ?_
  refine TL_name 42 (v' := .bool true) rfl (by simp) ?_
  refine TL_y rfl rfl (Y_move rfl) ?_
  refine TL_grun rfl rfl ?_
  refine TL_y rfl rfl (Y_move rfl) ?_
  refine TL_grun rfl rfl ?_
  refine TL_y rfl rfl (Y_eq rfl rfl) ?_
  refine TL_name 45 (v' := .bool true) rfl (by simp) ?_
  refine TL_y rfl rfl (Y_pick_t rfl rfl) ?_
  refine TL_y rfl rfl (Y_move rfl) ?_
  refine TL_grun rfl rfl ?_
  refine TL_y rfl rfl (Y_move rfl) ?_
  refine TL_grun rfl rfl ?_
  refine TL_y rfl rfl (Y_eq rfl rfl) ?_
  refine TL_name 49 (v' := .bool true) rfl (by simp) ?_
  refine TL_y rfl rfl (Y_pick_t rfl rfl) ?_
  refine TL_y rfl rfl (Y_move rfl) ?_
  refine TL_grun rfl rfl ?_
  refine TL_y rfl rfl (Y_move rfl) ?_
  refine TL_grun rfl rfl ?_
  refine TL_y rfl rfl (Y_str_eq rfl rfl) ?_
  refine TL_name 53 (v' := .bool true) rfl (by simp) ?_
  refine TL_y rfl rfl (Y_pick_t rfl rfl) ?_
  refine TL_y rfl rfl (Y_move rfl) ?_
  refine TL_grun rfl rfl ?_
  refine TL_y rfl rfl (Y_move rfl) ?_
  refine TL_name 56 (v' := .bool true) rfl (by simp) ?_
  refine TL_y rfl rfl (Y_pick_t rfl rfl) ?_
  refine TL_y rfl rfl (Y_move rfl) ?_
  refine TL_grun rfl rfl ?_
  refine TL_y rfl rfl (Y_move rfl) ?_
  refine TL_grun rfl rfl ?_
  refine TL_y rfl rfl (Y_len rfl) ?_
  refine TL_grun rfl rfl ?_
  refine TL_y rfl rfl (Y_eq rfl rfl) ?_
  refine TL_name 61 (v' := .bool true) rfl (by simp) ?_
  refine TL_y rfl rfl (Y_pick_t rfl rfl) ?_
  refine TL_y rfl rfl (Y_move rfl) ?_
  refine TL_grun rfl rfl ?_
  refine TL_y rfl rfl (Y_move rfl) ?_
  refine TL_grun rfl rfl ?_
  refine TL_index_int rfl rfl rfl slk (show ([1] : List Int)[0]? = some 1 from rfl) ?_
  intro hi65 bi65 oi65
  refine TL_grun rfl rfl ?_
  refine TL_y rfl rfl (Y_load_row rfl rfl) ?_
  refine TL_grun rfl rfl ?_
  refine TL_y rfl rfl (Y_eq rfl rfl) ?_
  refine TL_name 67 (v' := .bool true) rfl (by simp) ?_
  refine TL_y rfl rfl (Y_pick_t rfl rfl) ?_
  refine TL_y rfl rfl (Y_move rfl) ?_
  refine TL_grun rfl rfl ?_
  refine TL_y rfl rfl (Y_move rfl) ?_
  refine TL_grun rfl rfl ?_
  refine TL_y rfl rfl (Y_len rfl) ?_
  refine TL_grun rfl rfl ?_
  refine TL_y rfl rfl (Y_eq rfl rfl) ?_
  refine TL_name 72 (v' := .bool true) rfl (by simp) ?_
  refine TL_y rfl rfl (Y_pick_t rfl rfl) ?_
  refine TL_y rfl rfl (Y_move rfl) ?_
  refine TL_grun rfl rfl ?_
  refine TL_y rfl rfl (Y_move rfl) ?_
  refine TL_grun rfl rfl ?_
  refine TL_pullk b9 ?_
  refine TL_call rfl rfl (lenSTR_spec (l := dz2)) ?_
  rintro _ _ ⟨rfl, rfl⟩
  refine TL_grun rfl rfl ?_
  refine TL_y rfl rfl (Y_eq rfl rfl) ?_
  refine TL_name 77 (v' := .bool true) rfl (by simp) ?_
  refine TL_y rfl rfl (Y_pick_t rfl rfl) ?_
  refine TL_y rfl rfl (Y_assign rfl) ?_
  refine TL_nil ?_
  refine T_ret ?_
  exact RetG_1 (.inl rfl) rfl (ResV.tmp rfl) GivesTo.g (⟨rfl, rfl⟩)
theorem getSTR_nil (L : List HP) (d : DotD) : Fn Try.prog 29 #[.pointer none, dotV d] L (fun v L' => v = .tuple #[vSTR zSTR, .bool false] ∧ L' = L) := by
  refine Fn_enter Try.func29 rfl rfl rfl rfl ?_
  refine T_region ?_
  refine TL_box rfl rfl rfl ?_
  intro b3
  refine TL_y rfl rfl (Y_assign rfl) ?_
  refine TL_y rfl rfl (Y_assign rfl) ?_
  refine TL_nil ?_
  refine T_seq ?_
  refine T_region ?_
  refine TL_y rfl rfl (Y_move rfl) ?_
  refine TL_call rfl rfl (madeSTR_nil _) ?_
  rintro _ _ ⟨rfl, rfl⟩
  refine TL_name 10 (v' := .bool false) rfl (rfl) ?_
  refine TL_y rfl rfl (Y_not_f rfl) ?_
  refine TL_y rfl rfl (Y_move rfl) ?_
  refine TL_gskip rfl rfl rfl rfl ?_
  refine TL_gskip rfl rfl rfl rfl ?_
  refine TL_gskip rfl rfl rfl rfl ?_
  refine TL_y rfl rfl (Y_pick_t rfl rfl) ?_
  refine TL_nil ?_
  refine T_cond_true rfl ?_
  refine T_region ?_
  refine TL_y rfl rfl (Y_assign rfl) ?_
  refine TL_nil ?_
  refine T_region ?_
  refine TL_y rfl rfl (Y_move rfl) ?_
  refine TL_y rfl rfl (Y_assign rfl) ?_
  refine TL_y rfl rfl (Y_assign rfl) ?_
  refine TL_nil ?_
  refine T_ret ?_
  refine thenS_ret ?_
  exact RetG_2 (.inl rfl) rfl (ResV.tmp rfl) (ResV.tmp rfl) GivesTo.g (⟨rfl, rfl⟩)
theorem addSTR_nil (L : List HP) (d : DotD) (x : tSTR) : Fn Try.prog 16 #[.pointer none, dotV d, vSTR x] L (fun v L' => v = .int .i64 6 ∧ L' = L) := by
  refine Fn_enter Try.func16 rfl rfl rfl rfl ?_
  refine T_region ?_
  refine TL_box rfl rfl rfl ?_
  intro b4
  refine TL_y rfl rfl (Y_assign rfl) ?_
  refine TL_nil ?_
  refine T_seq ?_
  refine T_block ?_
  refine T_region ?_
  refine TL_y rfl rfl (Y_move rfl) ?_
  refine TL_call rfl rfl (madeSTR_nil _) ?_
  rintro _ _ ⟨rfl, rfl⟩
  refine TL_name 14 (v' := .bool false) rfl (rfl) ?_
  refine TL_y rfl rfl (Y_not_f rfl) ?_
  refine TL_y rfl rfl (Y_assign rfl) ?_
  refine TL_nil ?_
  refine T_cond_true rfl ?_
  refine T_region ?_
  refine TL_y rfl rfl (Y_assign rfl) ?_
  refine TL_nil ?_
  refine T_ret ?_
  refine inB_ret ?_
  refine thenS_ret ?_
  exact RetG_1 (.inl rfl) rfl (ResV.tmp rfl) GivesTo.g (⟨rfl, rfl⟩)
theorem vectorSTR_nil (L : List HP) : Fn Try.prog 20 #[.pointer none] L (fun v L' => v = .slice none 0 0 ∧ L' = L) := by
  refine Fn_enter Try.func20 rfl rfl rfl rfl ?_
  refine T_region ?_
  refine TL_y rfl rfl (Y_assign rfl) ?_
  refine TL_nil ?_
  refine T_seq ?_
  refine T_region ?_
  refine TL_y rfl rfl (Y_move rfl) ?_
  refine TL_call rfl rfl (madeSTR_nil _) ?_
  rintro _ _ ⟨rfl, rfl⟩
  refine TL_name 4 (v' := .bool false) rfl (rfl) ?_
  refine TL_y rfl rfl (Y_not_f rfl) ?_
  refine TL_nil ?_
  refine T_cond_true rfl ?_
  refine T_region ?_
  refine TL_y rfl rfl (Y_assign rfl) ?_
  refine TL_nil ?_
  refine T_ret ?_
  refine thenS_ret ?_
  exact RetG_1 (.inl rfl) rfl (ResV.tmp rfl) GivesTo.g (⟨rfl, rfl⟩)
theorem lenSTR_nil (L : List HP) : Fn Try.prog 25 #[.pointer none] L (fun v L' => v = .int .i64 0 ∧ L' = L) := by
  refine Fn_enter Try.func25 rfl rfl rfl rfl ?_
  refine T_region ?_
  refine TL_y rfl rfl (Y_assign rfl) ?_
  refine TL_nil ?_
  refine T_seq ?_
  refine T_region ?_
  refine TL_y rfl rfl (Y_move rfl) ?_
  refine TL_call rfl rfl (madeSTR_nil _) ?_
  rintro _ _ ⟨rfl, rfl⟩
  refine TL_name 4 (v' := .bool false) rfl (rfl) ?_
  refine TL_y rfl rfl (Y_not_f rfl) ?_
  refine TL_nil ?_
  refine T_cond_true rfl ?_
  refine T_region ?_
  refine TL_y rfl rfl (Y_assign rfl) ?_
  refine TL_nil ?_
  refine T_ret ?_
  refine thenS_ret ?_
  exact RetG_1 (.inl rfl) rfl (ResV.tmp rfl) GivesTo.g (⟨rfl, rfl⟩)
theorem forkSTR_nil (L : List HP) : Fn Try.prog 28 #[.pointer none] L (fun v L' => v = .pointer none ∧ L' = L) := by
  refine Fn_enter Try.func28 rfl rfl rfl rfl ?_
  refine T_region ?_
  refine TL_y rfl rfl (Y_assign rfl) ?_
  refine TL_nil ?_
  refine T_seq ?_
  refine T_region ?_
  refine TL_y rfl rfl (Y_move rfl) ?_
  refine TL_call rfl rfl (madeSTR_nil _) ?_
  rintro _ _ ⟨rfl, rfl⟩
  refine TL_name 7 (v' := .bool false) rfl (rfl) ?_
  refine TL_y rfl rfl (Y_not_f rfl) ?_
  refine TL_nil ?_
  refine T_cond_true rfl ?_
  refine T_region ?_
  refine TL_y rfl rfl (Y_assign rfl) ?_
  refine TL_nil ?_
  refine T_ret ?_
  refine thenS_ret ?_
  exact RetG_1 (.inl rfl) rfl (ResV.tmp rfl) GivesTo.g (⟨rfl, rfl⟩)
theorem missingSTR_nil {L : List HP} {Av : Option Addr} {cv : Nat} {k : Nat} : Fn Try.prog 26 #[.pointer none, .slice Av k cv] L (fun r L' => r = .slice none 0 0 ∧ L' = L) := by
  refine Fn_enterM Try.func26 rfl rfl rfl rfl ?_
  refine T_region ?_
  refine TL_box rfl rfl rfl ?_
  intro b2
  refine TL_y rfl rfl (Y_assign rfl) ?_
  refine TL_nil ?_
  refine T_seq ?_
  refine T_region ?_
  refine TL_y rfl rfl (Y_load rfl rfl) ?_
  refine TL_call rfl rfl (madeSTR_nil _) ?_
  rintro _ L1 ⟨rfl, hL⟩
  refine TL_name 10 (v' := .bool false) rfl (rfl) ?_
  have hL := hL.symm
  subst hL
  refine TL_y rfl rfl (Y_not_f rfl) ?_
  refine TL_nil ?_
  refine T_cond_true rfl ?_
  refine T_region ?_
  refine TL_y rfl rfl (Y_assign rfl) ?_
  refine TL_nil ?_
  refine T_ret ?_
  refine thenS_ret ?_
  refine retM0 ?_
  exact RetG_1 (.inl rfl) rfl (ResV.tmp rfl) GivesTo.g (⟨rfl, rfl⟩)
theorem where1STR_nil {ly bn bw : Nat} {p0 : HP} {Lx : List HP} : Fn Try.prog 107 #[.func (.yield ly) #[] #[], .pointer (some ⟨bn, 0, none⟩), .pointer (some ⟨bw, 0, none⟩)] (con ly p0 :: cells bn [.pointer none] 25 :: Lx) (fun v L' => L' = con ly p0 :: cells bn [.pointer none] 25 :: Lx) := by
  refine Fn_enter Try.func107 rfl rfl rfl rfl ?_
  refine T_seq ?_
  refine T_region ?_
  refine TL_y rfl rfl (Y_load rfl rfl) ?_
  refine TL_call rfl rfl (madeSTR_nil _) ?_
  rintro _ L1 ⟨rfl, hL⟩
  refine TL_name 10 (v' := .bool false) rfl (rfl) ?_
  have hL := hL.symm
  subst hL
  refine TL_y rfl rfl (Y_not_f rfl) ?_
  refine TL_nil ?_
  refine T_cond_true rfl ?_
  refine T_ret ?_
  refine thenS_ret ?_
  exact RetG_0 (.inl rfl) rfl GivesTo.g (rfl)
theorem whereSTRn_iter {bn bw : Nat} : IterL Try.prog (.func (.func 107) #[] #[.pointer (some ⟨bn, 0, none⟩), .pointer (some ⟨bw, 0, none⟩)]) itSTR (fun _ _ => False) 0 [cells bn [.pointer none] 25] (fun st xs => xs = []) :=
  ⟨_, [], [.pointer (some ⟨bn, 0, none⟩), .pointer (some ⟨bw, 0, none⟩)], rfl, inferInstance, fun τ l C step stop cnt s0 Lx h0 hc hcnt hy => where1STR_nil.cases_ fun v L' h => ⟨[], s0, rfl, .nil _, h⟩⟩
theorem extrasSTR_nil {L : List HP} : Fn Try.prog 23 #[.pointer none] L (fun v L' => v = .slice none 0 0 ∧ L' = L) := by
  refine Fn_enterM Try.func23 rfl rfl rfl rfl ?_
  refine T_region ?_
  refine TL_box rfl rfl rfl ?_
  intro b1
  refine TL_y rfl rfl (Y_assign rfl) ?_
  refine TL_nil ?_
  refine T_region ?_
  refine TL_alloc rfl rfl ?_
  intro b3
  refine TL_nil ?_
  refine T_seq ?_
  refine T_region ?_
  refine TL_y rfl rfl (Y_load rfl rfl) ?_
  refine TL_call rfl rfl (allSTR_spec rfl rfl) ?_
  rintro _ _ ⟨bn, bw, rfl, rfl⟩
  refine TL_nil ?_
  refine T_block ?_
  refine T_range_iter (fun g : Unit => [cells b3 [.slice none 0 0] 42]) (fun _ _ _ => False) (fun _ => 0) (()) rfl (whereSTRn_iter) ((show Gives _ ([cells b3 [.slice none 0 0] 42] ++ ([cells bn [.pointer none] 25] ++ L)) from GivesTo.g (L' := cells b3 [.slice none 0 0] 42 :: cells bn [.pointer none] 25 :: L))) (by decide) (fun _ => rfl) rfl (fun s x s' h => h.elim) (fun l900 b900 g x Lx hx hlt => ?_) (fun m900 xs g hseq hrun => ?_)
  · exact hx.elim
  · subst hseq
    cases hrun
    try simp only [List.cons_append, List.nil_append]
    refine behind_none ?_
    refine inB_normal ?_
    refine thenS_normal ?_
    refine T_region ?_
    refine TL_y rfl rfl (Y_load rfl rfl) ?_
    refine TL_y rfl rfl (Y_assign rfl) ?_
    refine TL_nil ?_
    refine T_ret ?_
    refine retM1 ?_
    exact RetG_1 (.inl rfl) rfl (ResV.tmp rfl) GivesTo.g (⟨rfl, rfl⟩)
theorem dotsNobody_walk {L : List HP} {Av : Option Addr} {cv : Nat} {v : List Int} (d : DotD) (hk : SlK L (intR .i64) Av cv v) (hb : v.length ≤ 17592186043904) : Fn Try.prog 6 #[dotV d, .slice Av v.length cv] L (fun v L' => v = .bool true ∧ L' = L) := by
  refine Fn_enterM Try.func6 rfl rfl rfl rfl ?_
  refine T_region ?_
  refine TL_box rfl rfl rfl ?_
  intro b2
  refine TL_alloc rfl rfl ?_
  intro b4
  refine TL_nil ?_
  refine T_region ?_
  refine TL_y rfl rfl (Y_assign rfl) ?_
  refine TL_nil ?_
  refine T_region ?_
  refine TL_y rfl rfl (Y_move rfl) ?_
  refine TL_y rfl rfl (Y_load_agg rfl rfl) ?_
  refine TL_call rfl rfl (getSTR_nil _ _) ?_
  rintro _ _ ⟨rfl, rfl⟩
  refine TL_y rfl rfl (Y_move rfl) ?_
  refine TL_y rfl rfl (Y_extract rfl rfl) ?_
  refine TL_y rfl rfl (Y_extract rfl rfl) ?_
  refine TL_y rfl rfl (Y_assign rfl) ?_
  refine TL_y rfl rfl (Y_assign rfl) ?_
  refine TL_nil ?_
  refine T_seq ?_
  refine T_region ?_
  refine TL_y rfl rfl (Y_move rfl) ?_
  refine TL_call rfl rfl (allSTR_spec rfl rfl) ?_
  rintro _ _ ⟨bn0, bw0, rfl, rfl⟩
  refine TL_y rfl rfl (Y_equal rfl rfl (EqIs.func_nil)) ?_
  refine TL_name 16 (v' := .bool false) rfl (rfl) ?_
  refine TL_nil ?_
  refine T_cond_false rfl ?_
  refine T_skip ?_
  refine thenS_normal ?_
  refine T_seq ?_
  refine T_region ?_
  refine TL_y rfl rfl (Y_move rfl) ?_
  refine TL_call rfl rfl (allSTR_spec rfl rfl) ?_
  rintro _ _ ⟨bn, bw, rfl, rfl⟩
  refine TL_nil ?_
  refine T_block ?_
  refine T_range_iter (fun g : Unit => [cells b4 [.bool false] 4]) (fun _ _ _ => False) (fun _ => 0) (()) rfl (whereSTRn_iter) ((show Gives _ ([cells b4 [.bool false] 4] ++ ([cells bn [.pointer none] 25] ++ (cells b2 (dotC d) 31 :: L))) from GivesTo.g (L' := cells b4 [.bool false] 4 :: cells bn [.pointer none] 25 :: cells b2 (dotC d) 31 :: L))) (by decide) (fun _ => rfl) rfl (fun s x s' h => h.elim) (fun l900 b900 g x Lx hx hlt => ?_) (fun m900 xs g hseq hrun => ?_)
  · exact hx.elim
  · subst hseq
    cases hrun
    try simp only [List.cons_append, List.nil_append]
    refine behind_none ?_
    refine inB_normal ?_
    refine thenS_normal ?_
    refine T_seq ?_
    refine T_region ?_
    refine TL_y rfl rfl (Y_move rfl) ?_
    refine TL_y rfl rfl (Y_move rfl) ?_
    refine TL_call rfl rfl (uptoSTR_spec rfl rfl (SlN.of_gives GivesTo.g hk.n) hb) ?_
    rintro _ _ ⟨bn2, bw2, bo2, A2, c2, rfl, rfl⟩
    refine TL_y rfl rfl (Y_equal rfl rfl (EqIs.func_nil)) ?_
    refine TL_name 24 (v' := .bool false) rfl (rfl) ?_
    refine TL_nil ?_
    refine T_cond_false rfl ?_
    refine T_skip ?_
    refine thenS_normal ?_
    refine T_seq ?_
    refine T_region ?_
    refine TL_y rfl rfl (Y_move rfl) ?_
    refine TL_y rfl rfl (Y_move rfl) ?_
    refine TL_call rfl rfl (uptoSTR_spec rfl rfl (SlN.of_gives GivesTo.g hk.n) hb) ?_
    rintro _ _ ⟨bn3, bw3, bo3, A3, c3, rfl, rfl⟩
    refine TL_nil ?_
    refine T_block ?_
    refine T_range_iter (fun g : Unit => [cells b4 [.bool false] 4]) (fun _ _ _ => False) (fun _ => 0) (()) rfl (whereSTRn_iter) ((show Gives _ ([cells b4 [.bool false] 4] ++ ([cells bn3 [.pointer none] 25] ++ (own0 m900 :: cells b2 (dotC d) 31 :: L))) from GivesTo.g (L' := cells b4 [.bool false] 4 :: cells bn3 [.pointer none] 25 :: own0 m900 :: cells b2 (dotC d) 31 :: L))) (by decide) (fun _ => rfl) rfl (fun s x s' h => h.elim) (fun l901 b901 g x Lx hx hlt => ?_) (fun m901 xs g hseq hrun => ?_)
    · exact hx.elim
    · subst hseq
      cases hrun
      try simp only [List.cons_append, List.nil_append]
      refine behind_none ?_
      refine inB_normal ?_
      refine thenS_normal ?_
      refine T_region ?_
      refine TL_call rfl rfl (lives09_spec _) ?_
      rintro _ _ ⟨rfl, rfl⟩
      refine TL_name 30 (v' := .bool true) rfl (rfl) ?_
      refine TL_y rfl rfl (Y_move rfl) ?_
      refine TL_grun rfl rfl ?_
      refine TL_y rfl rfl (Y_move rfl) ?_
      refine TL_grun rfl rfl ?_
      refine TL_y rfl rfl (Y_str_eq rfl rfl) ?_
      refine TL_name 33 (v' := .bool true) rfl (by simp) ?_
      refine TL_y rfl rfl (Y_pick_t rfl rfl) ?_
      refine TL_y rfl rfl (Y_move rfl) ?_
      refine TL_grun rfl rfl ?_
      refine TL_y rfl rfl (Y_move rfl) ?_
      refine TL_grun rfl rfl ?_
      refine TL_y rfl rfl (Y_not rfl) ?_
      refine TL_name 37 (v' := .bool true) rfl (by simp) ?_
      refine TL_y rfl rfl (Y_pick_t rfl rfl) ?_
      refine TL_y rfl rfl (Y_move rfl) ?_
      refine TL_grun rfl rfl ?_
      refine TL_y rfl rfl (Y_move rfl) ?_
      refine TL_grun rfl rfl ?_
      refine TL_y rfl rfl (Y_load_agg rfl rfl) ?_
      refine TL_grun rfl rfl ?_
      refine TL_call rfl rfl (addSTR_nil _ _ _) ?_
      rintro _ _ ⟨rfl, rfl⟩
      refine TL_grun rfl rfl ?_
      refine TL_y rfl rfl (Y_eq rfl rfl) ?_
      refine TL_name 43 (v' := .bool true) rfl (by simp) ?_
      refine TL_y rfl rfl (Y_pick_t rfl rfl) ?_
      refine TL_y rfl rfl (Y_move rfl) ?_
      refine TL_grun rfl rfl ?_
      refine TL_y rfl rfl (Y_move rfl) ?_
      refine TL_grun rfl rfl ?_
      refine TL_call rfl rfl (vectorSTR_nil _) ?_
      rintro _ _ ⟨rfl, rfl⟩
      refine TL_grun rfl rfl ?_
      refine TL_y rfl rfl (Y_len rfl) ?_
      refine TL_grun rfl rfl ?_
      refine TL_y rfl rfl (Y_eq rfl rfl) ?_
      refine TL_name 49 (v' := .bool true) rfl (by simp) ?_
      refine TL_y rfl rfl (Y_pick_t rfl rfl) ?_
      refine TL_y rfl rfl (Y_move rfl) ?_
      refine TL_grun rfl rfl ?_
      refine TL_y rfl rfl (Y_move rfl) ?_
      refine TL_grun rfl rfl ?_
      refine TL_call rfl rfl (extrasSTR_nil) ?_
      rintro _ _ ⟨rfl, rfl⟩
      refine TL_grun rfl rfl ?_
      refine TL_y rfl rfl (Y_len rfl) ?_
      refine TL_grun rfl rfl ?_
      refine TL_y rfl rfl (Y_eq rfl rfl) ?_
      refine TL_name 55 (v' := .bool true) rfl (by simp) ?_
      refine TL_y rfl rfl (Y_pick_t rfl rfl) ?_
      refine TL_y rfl rfl (Y_move rfl) ?_
      refine TL_grun rfl rfl ?_
      refine TL_y rfl rfl (Y_move rfl) ?_
      refine TL_grun rfl rfl ?_
      refine TL_y rfl rfl (Y_move rfl) ?_
      refine TL_grun rfl rfl ?_
      refine TL_call rfl rfl (missingSTR_nil) ?_
      rintro _ _ ⟨rfl, rfl⟩
      refine TL_grun rfl rfl ?_
      refine TL_y rfl rfl (Y_len rfl) ?_
      refine TL_grun rfl rfl ?_
      refine TL_y rfl rfl (Y_eq rfl rfl) ?_
      refine TL_name 62 (v' := .bool true) rfl (by simp) ?_
      refine TL_y rfl rfl (Y_pick_t rfl rfl) ?_
      refine TL_y rfl rfl (Y_move rfl) ?_
      refine TL_grun rfl rfl ?_
      refine TL_y rfl rfl (Y_move rfl) ?_
      refine TL_grun rfl rfl ?_
      refine TL_call rfl rfl (lenSTR_nil _) ?_
      rintro _ _ ⟨rfl, rfl⟩
      refine TL_grun rfl rfl ?_
      refine TL_y rfl rfl (Y_eq rfl rfl) ?_
      refine TL_name 67 (v' := .bool true) rfl (by simp) ?_
      refine TL_y rfl rfl (Y_pick_t rfl rfl) ?_
      refine TL_y rfl rfl (Y_move rfl) ?_
      refine TL_grun rfl rfl ?_
      refine TL_y rfl rfl (Y_move rfl) ?_
      refine TL_grun rfl rfl ?_
      refine TL_call rfl rfl (forkSTR_nil _) ?_
      rintro _ _ ⟨rfl, rfl⟩
      refine TL_grun rfl rfl ?_
      refine TL_y rfl rfl (Y_equal rfl rfl (EqIs.ptr_nil)) ?_
      refine TL_name 72 (v' := .bool true) rfl (by simp) ?_
      refine TL_y rfl rfl (Y_pick_t rfl rfl) ?_
      refine TL_store rfl rfl rfl rfl rfl rfl ?_
      refine TL_nil ?_
      refine T_ret ?_
      refine retM2 ?_
      exact RetG_1 (.inl rfl) rfl (ResV.cell rfl rfl) GivesTo.g (⟨rfl, rfl⟩)
end Go.SL
