/- Ballots: the next one; equality of ballots. -/
import Derived.Test.YtiiejjdkhekhmaaBalF
set_option linter.unusedVariables false
set_option linter.unusedSimpArgs false
namespace Go.SL
open Go Go.Proofs
def nextB (a : Int × Int) (node : Int) : (Int × Int) × Int := if ¬ (0 ≤ node ∧ node < 7) then ((0, 0), 1) else if a.1 < 0 ∨ 2147483647 ≤ a.1 then ((0, 0), 2) else ((a.1 + 1, node), 0)
theorem isNode_spec (m : Int) (L : List HP) : Fn Try.prog 66 #[.int .i64 m] L (fun v L' => v = .bool (decide (0 ≤ m ∧ m < 7)) ∧ L' = L) := by
  refine Fn_enter Try.func66 rfl rfl rfl rfl ?_
  refine T_region ?_
  refine TL_y rfl rfl (Y_assign rfl) ?_
  refine TL_nil ?_
  refine T_region ?_
  refine TL_y rfl rfl (Y_move rfl) ?_
  refine TL_y rfl rfl (Y_ge rfl rfl) ?_
  refine TL_y rfl rfl (Y_move rfl) ?_
  refine TL_splitd 5 rfl (fun h5 => ?_) (fun h5 => ?_)
  · refine TL_grun rfl rfl ?_
    refine TL_y rfl rfl (Y_move rfl) ?_
    refine TL_grun rfl rfl ?_
    refine TL_y rfl rfl (Y_lt rfl rfl) ?_
    refine TL_y rfl rfl (Y_pick_t rfl rfl) ?_
    refine TL_y rfl rfl (Y_assign rfl) ?_
    refine TL_nil ?_
    refine T_ret ?_
    exact RetG_1 (.inl rfl) rfl (ResV.tmp rfl) GivesTo.g (⟨by simp [h5], rfl⟩)
  · refine TL_gskip rfl rfl rfl rfl ?_
    refine TL_gskip rfl rfl rfl rfl ?_
    refine TL_y rfl rfl (Y_pick_f rfl rfl) ?_
    refine TL_y rfl rfl (Y_assign rfl) ?_
    refine TL_nil ?_
    refine T_ret ?_
    exact RetG_1 (.inl rfl) rfl (ResV.tmp rfl) GivesTo.g (⟨by simp [h5], rfl⟩)
theorem next_spec (a : Int × Int) (node : Int) (L : List HP) : Fn Try.prog 39 #[balV a, .int .i64 node] L (fun v L' => v = .tuple #[balV (nextB a node).1, .int .i64 (nextB a node).2] ∧ L' = L) := by
  refine Fn_enter Try.func39 rfl rfl rfl rfl ?_
  refine T_region ?_
  refine TL_box rfl rfl rfl ?_
  intro b2
  refine TL_alloc rfl rfl ?_
  intro b4
  refine TL_y rfl rfl (Y_assign rfl) ?_
  refine TL_nil ?_
  refine T_seq ?_
  refine T_block ?_
  refine T_region ?_
  refine TL_y rfl rfl (Y_move rfl) ?_
  refine TL_call rfl rfl (isNode_spec _ _) ?_
  rintro _ _ ⟨rfl, rfl⟩
  refine TL_y rfl rfl (Y_not_d rfl) ?_
  refine TL_y rfl rfl (Y_assign rfl) ?_
  refine TL_nil ?_
  refine T_if rfl (fun h6 => ?_) (fun h6 => ?_)
  · refine T_region ?_
    refine TL_y rfl rfl (Y_build rfl rfl) ?_
    refine TL_store rfl rfl rfl rfl rfl rfl ?_
    refine TL_y rfl rfl (Y_assign rfl) ?_
    refine TL_nil ?_
    refine T_ret ?_
    refine inB_ret ?_
    refine thenS_ret ?_
    exact RetG_2 (.inl rfl) rfl (ResV.agg rfl rfl) (ResV.tmp rfl) GivesTo.g (⟨by rw [nextB, if_pos h6], rfl⟩)
  · refine T_region ?_
    refine TL_y rfl rfl (Y_field_addr rfl) ?_
    refine TL_y rfl rfl (Y_load rfl rfl) ?_
    refine TL_y rfl rfl (Y_lt rfl rfl) ?_
    refine TL_y rfl rfl (Y_move rfl) ?_
    refine TL_splitd 15 rfl (fun h15 => ?_) (fun h15 => ?_)
    · refine TL_gskip rfl rfl rfl rfl ?_
      refine TL_gskip rfl rfl rfl rfl ?_
      refine TL_gskip rfl rfl rfl rfl ?_
      refine TL_y rfl rfl (Y_pick_t rfl rfl) ?_
      refine TL_y rfl rfl (Y_assign rfl) ?_
      refine TL_nil ?_
      refine T_cond_true rfl ?_
      refine T_region ?_
      refine TL_y rfl rfl (Y_build rfl rfl) ?_
      refine TL_store rfl rfl rfl rfl rfl rfl ?_
      refine TL_y rfl rfl (Y_assign rfl) ?_
      refine TL_nil ?_
      refine T_ret ?_
      refine inB_ret ?_
      refine thenS_ret ?_
      exact RetG_2 (.inl rfl) rfl (ResV.agg rfl rfl) (ResV.tmp rfl) GivesTo.g (⟨by rw [nextB, if_neg h6, if_pos (by omega)], rfl⟩)
    · refine TL_grun rfl rfl ?_
      refine TL_y rfl rfl (Y_field_addr rfl) ?_
      refine TL_grun rfl rfl ?_
      refine TL_y rfl rfl (Y_load rfl rfl) ?_
      refine TL_grun rfl rfl ?_
      refine TL_y rfl rfl (Y_ge rfl rfl) ?_
      refine TL_y rfl rfl (Y_pick_f rfl rfl) ?_
      refine TL_y rfl rfl (Y_assign rfl) ?_
      refine TL_nil ?_
      refine T_if rfl (fun h11 => ?_) (fun h11 => ?_)
      · refine T_region ?_
        refine TL_y rfl rfl (Y_build rfl rfl) ?_
        refine TL_store rfl rfl rfl rfl rfl rfl ?_
        refine TL_y rfl rfl (Y_assign rfl) ?_
        refine TL_nil ?_
        refine T_ret ?_
        refine inB_ret ?_
        refine thenS_ret ?_
        exact RetG_2 (.inl rfl) rfl (ResV.agg rfl rfl) (ResV.tmp rfl) GivesTo.g (⟨by rw [nextB, if_neg h6, if_pos (by omega)], rfl⟩)
      · refine T_skip ?_
        refine inB_normal ?_
        refine thenS_normal ?_
        refine T_region ?_
        refine TL_y rfl rfl (Y_field_addr rfl) ?_
        refine TL_y rfl rfl (Y_load rfl rfl) ?_
        refine TL_y rfl rfl (Y_add rfl rfl (by omega)) ?_
        refine TL_y rfl rfl (Y_move rfl) ?_
        refine TL_y rfl rfl (Y_build rfl rfl) ?_
        refine TL_store rfl rfl rfl rfl rfl rfl ?_
        refine TL_y rfl rfl (Y_assign rfl) ?_
        refine TL_nil ?_
        refine T_ret ?_
        exact RetG_2 (.inl rfl) rfl (ResV.agg rfl rfl) (ResV.tmp rfl) GivesTo.g (⟨by rw [nextB, if_neg h6, if_neg (by omega)], rfl⟩)
theorem refNext_spec (a : Int × Int) (node : Int) (L : List HP) : Fn Try.prog 40 #[balV a, .int .i64 node] L (fun v L' => v = .tuple #[balV (nextB a node).1, .int .i64 (nextB a node).2] ∧ L' = L) := by
  refine Fn_enter Try.func40 rfl rfl rfl rfl ?_
  refine T_region ?_
  refine TL_box rfl rfl rfl ?_
  intro b2
  refine TL_alloc rfl rfl ?_
  intro b4
  refine TL_y rfl rfl (Y_assign rfl) ?_
  refine TL_nil ?_
  refine T_seq ?_
  refine T_region ?_
  refine TL_y rfl rfl (Y_move rfl) ?_
  refine TL_y rfl rfl (Y_lt rfl rfl) ?_
  refine TL_y rfl rfl (Y_move rfl) ?_
  refine TL_splitd 8 rfl (fun h8 => ?_) (fun h8 => ?_)
  · refine TL_gskip rfl rfl rfl rfl ?_
    refine TL_gskip rfl rfl rfl rfl ?_
    refine TL_y rfl rfl (Y_pick_t rfl rfl) ?_
    refine TL_nil ?_
    refine T_cond_true rfl ?_
    refine T_region ?_
    refine TL_y rfl rfl (Y_build rfl rfl) ?_
    refine TL_store rfl rfl rfl rfl rfl rfl ?_
    refine TL_y rfl rfl (Y_assign rfl) ?_
    refine TL_nil ?_
    refine T_ret ?_
    refine thenS_ret ?_
    exact RetG_2 (.inl rfl) rfl (ResV.agg rfl rfl) (ResV.tmp rfl) GivesTo.g (⟨by rw [nextB, if_pos (by omega)], rfl⟩)
  · refine TL_grun rfl rfl ?_
    refine TL_y rfl rfl (Y_move rfl) ?_
    refine TL_grun rfl rfl ?_
    refine TL_y rfl rfl (Y_gt rfl rfl) ?_
    refine TL_y rfl rfl (Y_pick_f rfl rfl) ?_
    refine TL_nil ?_
    refine T_if rfl (fun h11 => ?_) (fun h11 => ?_)
    · refine T_region ?_
      refine TL_y rfl rfl (Y_build rfl rfl) ?_
      refine TL_store rfl rfl rfl rfl rfl rfl ?_
      refine TL_y rfl rfl (Y_assign rfl) ?_
      refine TL_nil ?_
      refine T_ret ?_
      refine thenS_ret ?_
      exact RetG_2 (.inl rfl) rfl (ResV.agg rfl rfl) (ResV.tmp rfl) GivesTo.g (⟨by rw [nextB, if_pos (by omega)], rfl⟩)
    · refine T_skip ?_
      refine thenS_normal ?_
      refine T_seq ?_
      refine T_region ?_
      refine TL_y rfl rfl (Y_field_addr rfl) ?_
      refine TL_y rfl rfl (Y_load rfl rfl) ?_
      refine TL_y rfl rfl (Y_lt rfl rfl) ?_
      refine TL_y rfl rfl (Y_move rfl) ?_
      refine TL_splitd 16 rfl (fun h16 => ?_) (fun h16 => ?_)
      · refine TL_gskip rfl rfl rfl rfl ?_
        refine TL_gskip rfl rfl rfl rfl ?_
        refine TL_gskip rfl rfl rfl rfl ?_
        refine TL_y rfl rfl (Y_pick_t rfl rfl) ?_
        refine TL_nil ?_
        refine T_cond_true rfl ?_
        refine T_region ?_
        refine TL_y rfl rfl (Y_build rfl rfl) ?_
        refine TL_store rfl rfl rfl rfl rfl rfl ?_
        refine TL_y rfl rfl (Y_assign rfl) ?_
        refine TL_nil ?_
        refine T_ret ?_
        refine thenS_ret ?_
        exact RetG_2 (.inl rfl) rfl (ResV.agg rfl rfl) (ResV.tmp rfl) GivesTo.g (⟨by rw [nextB, if_neg (by omega), if_pos (by omega)], rfl⟩)
      · refine TL_grun rfl rfl ?_
        refine TL_y rfl rfl (Y_field_addr rfl) ?_
        refine TL_grun rfl rfl ?_
        refine TL_y rfl rfl (Y_load rfl rfl) ?_
        refine TL_grun rfl rfl ?_
        refine TL_y rfl rfl (Y_ge rfl rfl) ?_
        refine TL_y rfl rfl (Y_pick_f rfl rfl) ?_
        refine TL_nil ?_
        refine T_if rfl (fun h20 => ?_) (fun h20 => ?_)
        · refine T_region ?_
          refine TL_y rfl rfl (Y_build rfl rfl) ?_
          refine TL_store rfl rfl rfl rfl rfl rfl ?_
          refine TL_y rfl rfl (Y_assign rfl) ?_
          refine TL_nil ?_
          refine T_ret ?_
          refine thenS_ret ?_
          exact RetG_2 (.inl rfl) rfl (ResV.agg rfl rfl) (ResV.tmp rfl) GivesTo.g (⟨by rw [nextB, if_neg (by omega), if_pos (by omega)], rfl⟩)
        · refine T_skip ?_
          refine thenS_normal ?_
          refine T_region ?_
          refine TL_y rfl rfl (Y_field_addr rfl) ?_
          refine TL_y rfl rfl (Y_load rfl rfl) ?_
          refine TL_y rfl rfl (Y_add rfl rfl (by omega)) ?_
          refine TL_y rfl rfl (Y_move rfl) ?_
          refine TL_y rfl rfl (Y_build rfl rfl) ?_
          refine TL_store rfl rfl rfl rfl rfl rfl ?_
          refine TL_y rfl rfl (Y_assign rfl) ?_
          refine TL_nil ?_
          refine T_ret ?_
          exact RetG_2 (.inl rfl) rfl (ResV.agg rfl rfl) (ResV.tmp rfl) GivesTo.g (⟨by rw [nextB, if_neg (by omega), if_neg (by omega)], rfl⟩)

theorem bal_guard : Try.prog.eqGuardType Try.prog.depth 56 = false := by kernel_rfl
theorem bal_held : Try.prog.stoodInHeld 56 = false := by kernel_rfl
theorem eq_bal (dd : Nat) (w : World) (a b : Int × Int) : (Op.equalIn (dd + 2) 56 (balV a) (balV b)).run Try.prog w = .ok (decide (a = b)) w := by
  have hn : ∀ x y, (Op.equalIn (dd + 1) 3 (.int .i64 x) (.int .i64 y)).run Try.prog w = .ok (decide (x = y)) w := fun x y => EqIs.int (k := .i64) dd w
  generalize hdd : dd + 1 = d1 at hn
  have : dd + 2 = d1 + 1 := by omega
  rw [this]
  simp [Op.equalIn, Try.runUnderlying56, bal_held, part, Try.isAgg3, hn]
  by_cases h1 : a.1 = b.1 <;> by_cases h2 : a.2 = b.2 <;> simp [h1, h2, Prod.ext_iff]
section
variable {E : Env} {L : List HP} {ty : TypeId}
theorem eq_bal' (w : World) (a b : Int × Int) : (Op.equal 56 (balV a) (balV b)).run Try.prog w = .ok (decide (a = b)) w := eq_bal 9998 w a b
theorem Y_eq_bal {x y : Operand} {t' : TypeId} {a b : Int × Int} (hx : ev E x = some (balV a)) (hy : ev E y = some (balV b)) : Yl Try.prog E L (.binOp .eql 56 x y t') ty (.bool (decide (a = b))) := fun n D W ac w dst pos af g hv hs => by
  have h3 : ∀ xs ys : Array Value, Go.binOp .eql 56 (.agg xs) (.agg ys) = (do Pure.pure (Value.bool (← Op.equal 56 (.agg xs) (.agg ys))) : Sem Value) := fun xs ys => by simp only [Go.binOp]
  simp only [execOp, hv.ev hx, hv.ev hy, eqGuard, h3]
  simp [bal_guard, eq_bal']
theorem Y_ne_bal {x y : Operand} {t' : TypeId} {a b : Int × Int} (hx : ev E x = some (balV a)) (hy : ev E y = some (balV b)) : Yl Try.prog E L (.binOp .neq 56 x y t') ty (.bool (!decide (a = b))) := fun n D W ac w dst pos af g hv hs => by
  have h3 : ∀ xs ys : Array Value, Go.binOp .neq 56 (.agg xs) (.agg ys) = (do Pure.pure (Value.bool (!(← Op.equal 56 (.agg xs) (.agg ys)))) : Sem Value) := fun xs ys => by simp only [Go.binOp]
  simp only [execOp, hv.ev hx, hv.ev hy, eqGuard, h3]
  simp [bal_guard, eq_bal']
end

theorem cmpI_neg (x y : Int) : cmpI x y = - cmpI y x := by unfold cmpI; split <;> split <;> (try split) <;> omega
theorem cmpB_neg (a b : Int × Int) : cmpB a b = - cmpB b a := by
  have := cmpI_neg a.2 b.2
  unfold cmpB; split <;> split <;> (try split) <;> omega
theorem cmpI_zero {x y : Int} : cmpI x y = 0 ↔ x = y := by unfold cmpI; split <;> (try split) <;> omega
theorem cmpB_zero {a b : Int × Int} : cmpB a b = 0 ↔ a = b := by
  have := cmpI_zero (x := a.2) (y := b.2)
  rw [Prod.ext_iff]
  unfold cmpB; split <;> (try split) <;> omega
theorem cmpI_lt {x y : Int} : cmpI x y < 0 ↔ x < y := by unfold cmpI; split <;> (try split) <;> omega
theorem cmpB_lt {a b : Int × Int} : cmpB a b < 0 ↔ a.1 < b.1 ∨ (a.1 = b.1 ∧ a.2 < b.2) := by
  have := cmpI_lt (x := a.2) (y := b.2)
  unfold cmpB; split <;> (try split) <;> omega
theorem ballotOrder_walk {L : List HP} (a b c : Int × Int) (node : Int) (hn : intIn .i64 node) : Fn Try.prog 10 #[balV a, balV b, balV c, .int .i64 node] L (fun v L' => v = .bool true ∧ L' = L) := by
  have hab := cmpB_in a b
  have hba := cmpB_in b a
  refine Fn_enter Try.func10 rfl rfl rfl rfl ?_
  refine T_region ?_
  refine TL_box rfl rfl rfl ?_
  intro b4
  refine TL_box rfl rfl rfl ?_
  intro b5
  refine TL_box rfl rfl rfl ?_
  intro b6
  refine TL_y rfl rfl (Y_assign rfl) ?_
  refine TL_nil ?_
  refine T_region ?_
  refine TL_y rfl rfl (Y_load_agg rfl rfl) ?_
  refine TL_y rfl rfl (Y_move rfl) ?_
  refine TL_call rfl rfl (next_spec a node _) ?_
  rintro _ _ ⟨rfl, rfl⟩
  refine TL_y rfl rfl (Y_move rfl) ?_
  refine TL_y rfl rfl (Y_extract rfl rfl) ?_
  refine TL_y rfl rfl (Y_extract rfl rfl) ?_
  refine TL_alloc rfl rfl ?_
  intro b9
  refine TL_store rfl rfl rfl rfl rfl rfl ?_
  refine TL_y rfl rfl (Y_assign rfl) ?_
  refine TL_nil ?_
  refine T_region ?_
  refine TL_y rfl rfl (Y_load_agg rfl rfl) ?_
  refine TL_y rfl rfl (Y_move rfl) ?_
  refine TL_call rfl rfl (refNext_spec a node _) ?_
  rintro _ _ ⟨rfl, rfl⟩
  refine TL_y rfl rfl (Y_move rfl) ?_
  refine TL_y rfl rfl (Y_extract rfl rfl) ?_
  refine TL_y rfl rfl (Y_extract rfl rfl) ?_
  refine TL_alloc rfl rfl ?_
  intro b11
  refine TL_store rfl rfl rfl rfl rfl rfl ?_
  refine TL_y rfl rfl (Y_assign rfl) ?_
  refine TL_nil ?_
  refine T_seq ?_
  refine T_region_draw _ [0, 1, 3, 7, 7, 31, 63, 127, 255, 255, 1023, 2047, 4095, 8191, 8191, 32767, 8191, 8191, 262143, 524287, 1048575, 2097151, 4194303, 8388607, 4194303, 33554431, 67108863, 134217727] [] [(0, false), (1, true), (2, true), (3, true), (4, true), (5, true), (6, true), (7, true), (8, true), (9, true), (10, true), (11, true), (12, true), (13, true), (14, true), (16, true), (17, true), (15, false), (18, false), (19, true), (20, true), (21, true), (22, true), (24, true), (23, false), (25, false), (26, true), (27, true)] (by kernel_rfl) (by decide +kernel) (Gives.refl _) ?_
  refine TF_anchor rfl ?_
  refine TL_call rfl rfl (lives15_spec _) ?_
  rintro _ _ ⟨rfl, rfl⟩
  refine TL_name 25 (v' := .bool true) rfl (rfl) ?_
  refine TF_end GivesTo.g ?_
  refine TF_y rfl rfl (Y_not_t rfl) ?_
  refine TF_y rfl rfl (Y_move rfl) ?_
  refine TF_gy rfl rfl rfl rfl (Y_load_agg rfl rfl) ?_
  refine TF_gy rfl rfl rfl rfl (Y_load_agg rfl rfl) ?_
  refine TF_gy rfl rfl rfl rfl (Y_ne_bal rfl rfl) ?_
  refine TF_name 30 (v' := .bool false) rfl (congrArg Value.bool (by simp)) ?_
  refine TF_y rfl rfl (Y_pick_f rfl rfl) ?_
  refine TF_y rfl rfl (Y_move rfl) ?_
  refine TF_gy rfl rfl rfl rfl (Y_move rfl) ?_
  refine TF_gy rfl rfl rfl rfl (Y_move rfl) ?_
  refine TF_gy rfl rfl rfl rfl (Y_ne rfl rfl) ?_
  refine TF_name 35 (v' := .bool false) rfl (congrArg Value.bool (by simp)) ?_
  refine TF_y rfl rfl (Y_pick_f rfl rfl) ?_
  refine TF_y rfl rfl (Y_move rfl) ?_
  refine TF_gy rfl rfl rfl rfl (Y_load_agg rfl rfl) ?_
  refine TF_gy rfl rfl rfl rfl (Y_load_agg rfl rfl) ?_
  refine TF_gy rfl rfl rfl rfl (Y_load_agg rfl rfl) ?_
  refine TF_gy rfl rfl rfl rfl (Y_load_agg rfl rfl) ?_
  refine TF_anchor rfl ?_
  refine TL_grun rfl rfl ?_
  refine TL_call rfl rfl (compare_spec a b _) ?_
  rintro _ _ ⟨rfl, rfl⟩
  refine TF_end GivesTo.g ?_
  refine TF_anchor rfl ?_
  refine TL_grun rfl rfl ?_
  refine TL_call rfl rfl (refCompare_spec a b _) ?_
  rintro _ _ ⟨rfl, rfl⟩
  refine TF_end GivesTo.g ?_
  refine TF_gy rfl rfl rfl rfl (Y_ne rfl rfl) ?_
  refine TF_name 44 (v' := .bool false) rfl (congrArg Value.bool (by simp)) ?_
  refine TF_y rfl rfl (Y_pick_f rfl rfl) ?_
  refine TF_y rfl rfl (Y_move rfl) ?_
  refine TF_gy rfl rfl rfl rfl (Y_move rfl) ?_
  refine TF_gy rfl rfl rfl rfl (Y_move rfl) ?_
  refine TF_anchor rfl ?_
  refine TL_grun rfl rfl ?_
  refine TL_call rfl rfl (quorum_spec node hn _) ?_
  rintro _ _ ⟨rfl, rfl⟩
  refine TF_end GivesTo.g ?_
  refine TF_anchor rfl ?_
  refine TL_grun rfl rfl ?_
  refine TL_call rfl rfl (refQuorum_spec node hn _) ?_
  rintro _ _ ⟨rfl, rfl⟩
  refine TF_end GivesTo.g ?_
  refine TF_gy rfl rfl rfl rfl (Y_ne rfl rfl) ?_
  refine TF_name 51 (v' := .bool false) rfl (congrArg Value.bool (by simp)) ?_
  refine TF_y rfl rfl (Y_pick_f rfl rfl) ?_
  refine TF_nil ?_
  refine T_cond_false rfl ?_
  refine T_skip ?_
  refine thenS_normal ?_
  refine T_seq ?_
  refine T_region ?_
  refine TL_y rfl rfl (Y_move rfl) ?_
  refine TL_y rfl rfl (Y_eq rfl rfl) ?_
  refine TL_y rfl rfl (Y_move rfl) ?_
  refine TL_splitd 55 rfl (fun h55 => ?_) (fun h55 => ?_)
  · refine TL_grun rfl rfl ?_
    refine TL_y rfl rfl (Y_load_agg rfl rfl) ?_
    refine TL_grun rfl rfl ?_
    refine TL_y rfl rfl (Y_load_agg rfl rfl) ?_
    refine TL_grun rfl rfl ?_
    refine TL_call rfl rfl (compare_spec (nextB a node).1 a _) ?_
    rintro _ _ ⟨rfl, rfl⟩
    refine TL_grun rfl rfl ?_
    refine TL_y rfl rfl (Y_le rfl rfl) ?_
    refine TL_name 59 (v' := .bool false) rfl (congrArg Value.bool (decide_eq_false (by have : 0 < cmpB (nextB a node).1 a := (by rw [cmpB_neg]; have : cmpB a (nextB a node).1 < 0 := (by rw [cmpB_lt]; left; revert h55; unfold nextB; split; simp; split; simp; intro _; show a.1 < a.1 + 1; omega); omega); omega))) ?_
    refine TL_y rfl rfl (Y_pick_t rfl rfl) ?_
    refine TL_nil ?_
    refine T_cond_false rfl ?_
    refine T_skip ?_
    refine thenS_normal ?_
    refine T_seq ?_
    refine T_region_draw _ [0, 0, 3, 0, 0, 31, 63, 127, 255, 511, 511, 2047, 4095, 511, 511, 25087, 65535, 131071] [] [(0, true), (1, true), (3, true), (4, true), (2, false), (5, false), (6, true), (7, true), (8, true), (9, true), (10, true), (13, true), (14, true), (15, true), (11, false), (12, true), (16, true), (17, true)] (by kernel_rfl) (by decide +kernel) (Gives.refl _) ?_
    refine TF_y rfl rfl (Y_load_agg rfl rfl) ?_
    refine TF_y rfl rfl (Y_load_agg rfl rfl) ?_
    refine TF_y rfl rfl (Y_load_agg rfl rfl) ?_
    refine TF_y rfl rfl (Y_load_agg rfl rfl) ?_
    refine TF_anchor rfl ?_
    refine TL_call rfl rfl (compare_spec a b _) ?_
    rintro _ _ ⟨rfl, rfl⟩
    refine TF_end GivesTo.g ?_
    refine TF_anchor rfl ?_
    refine TL_call rfl rfl (compare_spec b a _) ?_
    rintro _ _ ⟨rfl, rfl⟩
    refine TF_end GivesTo.g ?_
    refine TF_y rfl rfl (Y_neg rfl (by omega)) ?_
    refine TF_y rfl rfl (Y_ne rfl rfl) ?_
    refine TF_name 68 (v' := .bool false) rfl (congrArg Value.bool (by rw [cmpB_neg a b]; simp)) ?_
    refine TF_y rfl rfl (Y_move rfl) ?_
    refine TF_gy rfl rfl rfl rfl (Y_load_agg rfl rfl) ?_
    refine TF_gy rfl rfl rfl rfl (Y_load_agg rfl rfl) ?_
    refine TF_gy rfl rfl rfl rfl (Y_load_agg rfl rfl) ?_
    refine TF_gy rfl rfl rfl rfl (Y_load_agg rfl rfl) ?_
    refine TF_gy rfl rfl rfl rfl (Y_eq_bal rfl rfl) ?_
    refine TF_anchor rfl ?_
    refine TL_grun rfl rfl ?_
    refine TL_call rfl rfl (compare_spec a b _) ?_
    rintro _ _ ⟨rfl, rfl⟩
    refine TF_end GivesTo.g ?_
    refine TF_gy rfl rfl rfl rfl (Y_eq rfl rfl) ?_
    refine TF_gy rfl rfl rfl rfl (Y_unequal rfl rfl (EqIs.bool)) ?_
    refine TF_name 77 (v' := .bool false) rfl (congrArg Value.bool (by simp [cmpB_zero])) ?_
    refine TF_y rfl rfl (Y_pick_f rfl rfl) ?_
    refine TF_nil ?_
    refine T_cond_false rfl ?_
    refine T_skip ?_
    refine thenS_normal ?_
    refine T_region ?_
    refine TL_y rfl rfl (Y_load_agg rfl rfl) ?_
    refine TL_y rfl rfl (Y_load_agg rfl rfl) ?_
    refine TL_call rfl rfl (compare_spec a b _) ?_
    rintro _ _ ⟨rfl, rfl⟩
    refine TL_y rfl rfl (Y_lt rfl rfl) ?_
    refine TL_y rfl rfl (Y_move rfl) ?_
    refine TL_splitd 83 rfl (fun h83 => ?_) (fun h83 => ?_)
    · refine TL_gskip rfl rfl rfl rfl ?_
      refine TL_gskip rfl rfl rfl rfl ?_
      refine TL_gskip rfl rfl rfl rfl ?_
      refine TL_gskip rfl rfl rfl rfl ?_
      refine TL_y rfl rfl (Y_pick_t rfl rfl) ?_
      refine TL_y rfl rfl (Y_move rfl) ?_
      refine TL_gskip rfl rfl rfl rfl ?_
      refine TL_gskip rfl rfl rfl rfl ?_
      refine TL_gskip rfl rfl rfl rfl ?_
      refine TL_gskip rfl rfl rfl rfl ?_
      refine TL_y rfl rfl (Y_pick_t rfl rfl) ?_
      refine TL_y rfl rfl (Y_assign rfl) ?_
      refine TL_nil ?_
      refine T_ret ?_
      exact RetG_1 (.inl rfl) rfl (ResV.tmp rfl) GivesTo.g (⟨rfl, rfl⟩)
    · refine TL_grun rfl rfl ?_
      refine TL_y rfl rfl (Y_load_agg rfl rfl) ?_
      refine TL_grun rfl rfl ?_
      refine TL_y rfl rfl (Y_load_agg rfl rfl) ?_
      refine TL_grun rfl rfl ?_
      refine TL_call rfl rfl (compare_spec b c _) ?_
      rintro _ _ ⟨rfl, rfl⟩
      refine TL_grun rfl rfl ?_
      refine TL_y rfl rfl (Y_lt rfl rfl) ?_
      refine TL_y rfl rfl (Y_pick_f rfl rfl) ?_
      refine TL_y rfl rfl (Y_move rfl) ?_
      refine TL_splitd 89 rfl (fun h89 => ?_) (fun h89 => ?_)
      · refine TL_gskip rfl rfl rfl rfl ?_
        refine TL_gskip rfl rfl rfl rfl ?_
        refine TL_gskip rfl rfl rfl rfl ?_
        refine TL_gskip rfl rfl rfl rfl ?_
        refine TL_y rfl rfl (Y_pick_t rfl rfl) ?_
        refine TL_y rfl rfl (Y_assign rfl) ?_
        refine TL_nil ?_
        refine T_ret ?_
        exact RetG_1 (.inl rfl) rfl (ResV.tmp rfl) GivesTo.g (⟨rfl, rfl⟩)
      · refine TL_grun rfl rfl ?_
        refine TL_y rfl rfl (Y_load_agg rfl rfl) ?_
        refine TL_grun rfl rfl ?_
        refine TL_y rfl rfl (Y_load_agg rfl rfl) ?_
        refine TL_grun rfl rfl ?_
        refine TL_call rfl rfl (compare_spec a c _) ?_
        rintro _ _ ⟨rfl, rfl⟩
        refine TL_grun rfl rfl ?_
        refine TL_y rfl rfl (Y_ge rfl rfl) ?_
        refine TL_name 93 (v' := .bool true) rfl (congrArg Value.bool (decide_eq_true (by have h1 : ¬ cmpB a c < 0 := (by rw [cmpB_lt]; rw [cmpB_lt] at h83 h89; omega); omega))) ?_
        refine TL_y rfl rfl (Y_pick_f rfl rfl) ?_
        refine TL_y rfl rfl (Y_assign rfl) ?_
        refine TL_nil ?_
        refine T_ret ?_
        exact RetG_1 (.inl rfl) rfl (ResV.tmp rfl) GivesTo.g (⟨rfl, rfl⟩)
  · refine TL_gskip rfl rfl rfl rfl ?_
    refine TL_gskip rfl rfl rfl rfl ?_
    refine TL_gskip rfl rfl rfl rfl ?_
    refine TL_gskip rfl rfl rfl rfl ?_
    refine TL_y rfl rfl (Y_pick_f rfl rfl) ?_
    refine TL_nil ?_
    refine T_cond_false rfl ?_
    refine T_skip ?_
    refine thenS_normal ?_
    refine T_seq ?_
    refine T_region_draw _ [0, 0, 3, 0, 0, 31, 63, 127, 255, 511, 511, 2047, 4095, 511, 511, 25087, 65535, 131071] [] [(0, true), (1, true), (3, true), (4, true), (2, false), (5, false), (6, true), (7, true), (8, true), (9, true), (10, true), (13, true), (14, true), (15, true), (11, false), (12, true), (16, true), (17, true)] (by kernel_rfl) (by decide +kernel) (Gives.refl _) ?_
    refine TF_y rfl rfl (Y_load_agg rfl rfl) ?_
    refine TF_y rfl rfl (Y_load_agg rfl rfl) ?_
    refine TF_y rfl rfl (Y_load_agg rfl rfl) ?_
    refine TF_y rfl rfl (Y_load_agg rfl rfl) ?_
    refine TF_anchor rfl ?_
    refine TL_call rfl rfl (compare_spec a b _) ?_
    rintro _ _ ⟨rfl, rfl⟩
    refine TF_end GivesTo.g ?_
    refine TF_anchor rfl ?_
    refine TL_call rfl rfl (compare_spec b a _) ?_
    rintro _ _ ⟨rfl, rfl⟩
    refine TF_end GivesTo.g ?_
    refine TF_y rfl rfl (Y_neg rfl (by omega)) ?_
    refine TF_y rfl rfl (Y_ne rfl rfl) ?_
    refine TF_name 68 (v' := .bool false) rfl (congrArg Value.bool (by rw [cmpB_neg a b]; simp)) ?_
    refine TF_y rfl rfl (Y_move rfl) ?_
    refine TF_gy rfl rfl rfl rfl (Y_load_agg rfl rfl) ?_
    refine TF_gy rfl rfl rfl rfl (Y_load_agg rfl rfl) ?_
    refine TF_gy rfl rfl rfl rfl (Y_load_agg rfl rfl) ?_
    refine TF_gy rfl rfl rfl rfl (Y_load_agg rfl rfl) ?_
    refine TF_gy rfl rfl rfl rfl (Y_eq_bal rfl rfl) ?_
    refine TF_anchor rfl ?_
    refine TL_grun rfl rfl ?_
    refine TL_call rfl rfl (compare_spec a b _) ?_
    rintro _ _ ⟨rfl, rfl⟩
    refine TF_end GivesTo.g ?_
    refine TF_gy rfl rfl rfl rfl (Y_eq rfl rfl) ?_
    refine TF_gy rfl rfl rfl rfl (Y_unequal rfl rfl (EqIs.bool)) ?_
    refine TF_name 77 (v' := .bool false) rfl (congrArg Value.bool (by simp [cmpB_zero])) ?_
    refine TF_y rfl rfl (Y_pick_f rfl rfl) ?_
    refine TF_nil ?_
    refine T_cond_false rfl ?_
    refine T_skip ?_
    refine thenS_normal ?_
    refine T_region ?_
    refine TL_y rfl rfl (Y_load_agg rfl rfl) ?_
    refine TL_y rfl rfl (Y_load_agg rfl rfl) ?_
    refine TL_call rfl rfl (compare_spec a b _) ?_
    rintro _ _ ⟨rfl, rfl⟩
    refine TL_y rfl rfl (Y_lt rfl rfl) ?_
    refine TL_y rfl rfl (Y_move rfl) ?_
    refine TL_splitd 83 rfl (fun h83 => ?_) (fun h83 => ?_)
    · refine TL_gskip rfl rfl rfl rfl ?_
      refine TL_gskip rfl rfl rfl rfl ?_
      refine TL_gskip rfl rfl rfl rfl ?_
      refine TL_gskip rfl rfl rfl rfl ?_
      refine TL_y rfl rfl (Y_pick_t rfl rfl) ?_
      refine TL_y rfl rfl (Y_move rfl) ?_
      refine TL_gskip rfl rfl rfl rfl ?_
      refine TL_gskip rfl rfl rfl rfl ?_
      refine TL_gskip rfl rfl rfl rfl ?_
      refine TL_gskip rfl rfl rfl rfl ?_
      refine TL_y rfl rfl (Y_pick_t rfl rfl) ?_
      refine TL_y rfl rfl (Y_assign rfl) ?_
      refine TL_nil ?_
      refine T_ret ?_
      exact RetG_1 (.inl rfl) rfl (ResV.tmp rfl) GivesTo.g (⟨rfl, rfl⟩)
    · refine TL_grun rfl rfl ?_
      refine TL_y rfl rfl (Y_load_agg rfl rfl) ?_
      refine TL_grun rfl rfl ?_
      refine TL_y rfl rfl (Y_load_agg rfl rfl) ?_
      refine TL_grun rfl rfl ?_
      refine TL_call rfl rfl (compare_spec b c _) ?_
      rintro _ _ ⟨rfl, rfl⟩
      refine TL_grun rfl rfl ?_
      refine TL_y rfl rfl (Y_lt rfl rfl) ?_
      refine TL_y rfl rfl (Y_pick_f rfl rfl) ?_
      refine TL_y rfl rfl (Y_move rfl) ?_
      refine TL_splitd 89 rfl (fun h89 => ?_) (fun h89 => ?_)
      · refine TL_gskip rfl rfl rfl rfl ?_
        refine TL_gskip rfl rfl rfl rfl ?_
        refine TL_gskip rfl rfl rfl rfl ?_
        refine TL_gskip rfl rfl rfl rfl ?_
        refine TL_y rfl rfl (Y_pick_t rfl rfl) ?_
        refine TL_y rfl rfl (Y_assign rfl) ?_
        refine TL_nil ?_
        refine T_ret ?_
        exact RetG_1 (.inl rfl) rfl (ResV.tmp rfl) GivesTo.g (⟨rfl, rfl⟩)
      · refine TL_grun rfl rfl ?_
        refine TL_y rfl rfl (Y_load_agg rfl rfl) ?_
        refine TL_grun rfl rfl ?_
        refine TL_y rfl rfl (Y_load_agg rfl rfl) ?_
        refine TL_grun rfl rfl ?_
        refine TL_call rfl rfl (compare_spec a c _) ?_
        rintro _ _ ⟨rfl, rfl⟩
        refine TL_grun rfl rfl ?_
        refine TL_y rfl rfl (Y_ge rfl rfl) ?_
        refine TL_name 93 (v' := .bool true) rfl (congrArg Value.bool (decide_eq_true (by have h1 : ¬ cmpB a c < 0 := (by rw [cmpB_lt]; rw [cmpB_lt] at h83 h89; omega); omega))) ?_
        refine TL_y rfl rfl (Y_pick_f rfl rfl) ?_
        refine TL_y rfl rfl (Y_assign rfl) ?_
        refine TL_nil ?_
        refine T_ret ?_
        exact RetG_1 (.inl rfl) rfl (ResV.tmp rfl) GivesTo.g (⟨rfl, rfl⟩)
end Go.SL
