/- Net: packets and functions compared; what must come of every program. -/
import Derived.Test.YtfmkfpgplpfkhaaNetD
set_option linter.unusedVariables false
set_option linter.unusedSimpArgs false
namespace Go.SL
open Go Go.Proofs
instance {f : Go.Fn} {a c : Array Value} : EqBy (.func f a c) .nilFunc := ⟨fun t => by simp only [binOp], fun t => by simp only [binOp], fun op t x y => by cases op <;> rfl⟩
theorem EqIs.func_nil {P : Program} {t : TypeId} {f : Go.Fn} {a c : Array Value} {ps rs : Array TypeId} {vr : Bool} [ht : TyDesc P t (.func ps rs vr)] : EqIs P t (.func f a c) .nilFunc false := fun d w => by
  simp [Op.equalIn, ht.run]
theorem pack_eq {a b : PackD} : a = b ↔ a.id = b.id ∧ a.frm = b.frm ∧ a.to_ = b.to_ ∧ a.body = b.body := by cases a; cases b; simp
instance : DecidableEq PackD := fun a b => decidable_of_iff _ pack_eq.symm
theorem pack_guard : Try.prog.eqGuardType Try.prog.depth 36 = false := by kernel_rfl
theorem pack_held : Try.prog.stoodInHeld 36 = false := by kernel_rfl
theorem pack_eq0 (dd : Nat) (w : World) (a b : PackD) : (Op.equalIn (dd + 2) 36 (packV a) (packV b)).run Try.prog w = .ok (decide (a = b)) w := by
  have hn : ∀ x y, (Op.equalIn (dd + 1) 3 (.int .i64 x) (.int .i64 y)).run Try.prog w = .ok (decide (x = y)) w := fun x y => EqIs.int (k := .i64) dd w
  have hs : ∀ x y, (Op.equalIn (dd + 1) 9 (.string x) (.string y)).run Try.prog w = .ok (decide (x = y)) w := fun x y => EqIs.str dd w
  generalize hdd : dd + 1 = d1 at hn hs
  have : dd + 2 = d1 + 1 := by omega
  rw [this]
  simp [Op.equalIn, Try.runUnderlying36, pack_held, part, Try.isAgg3, Try.isAgg9, hn, hs]
  by_cases h1 : a.id = b.id <;> by_cases h2 : a.frm = b.frm <;> by_cases h3 : a.to_ = b.to_ <;> by_cases h4 : a.body = b.body <;> simp [h1, h2, h3, h4, pack_eq]
section
variable {E : Env} {L : List HP} {ty : TypeId}
theorem pack_eq1 (w : World) (a b : PackD) : (Op.equal 36 (packV a) (packV b)).run Try.prog w = .ok (decide (a = b)) w := pack_eq0 9998 w a b
theorem Y_eq_pack {x y : Operand} {t' : TypeId} {a b : PackD} (hx : ev E x = some (packV a)) (hy : ev E y = some (packV b)) : Yl Try.prog E L (.binOp .eql 36 x y t') ty (.bool (decide (a = b))) := fun n D W ac w dst pos af g hv hs => by
  have h3 : ∀ xs ys : Array Value, Go.binOp .eql 36 (.agg xs) (.agg ys) = (do Pure.pure (Value.bool (← Op.equal 36 (.agg xs) (.agg ys))) : Sem Value) := fun xs ys => by simp only [Go.binOp]
  simp only [execOp, hv.ev hx, hv.ev hy, eqGuard, h3]
  simp [pack_guard, pack_eq1]
theorem Y_ne_pack {x y : Operand} {t' : TypeId} {a b : PackD} (hx : ev E x = some (packV a)) (hy : ev E y = some (packV b)) : Yl Try.prog E L (.binOp .neq 36 x y t') ty (.bool (decide (a ≠ b))) := fun n D W ac w dst pos af g hv hs => by
  have h3 : ∀ xs ys : Array Value, Go.binOp .neq 36 (.agg xs) (.agg ys) = (do Pure.pure (Value.bool (!(← Op.equal 36 (.agg xs) (.agg ys)))) : Sem Value) := fun xs ys => by simp only [Go.binOp]
  simp only [execOp, hv.ev hx, hv.ev hy, eqGuard, h3]
  simp [pack_guard, pack_eq1]
end
theorem netTo_spec {L : List HP} {b : Nat} (k : Int) : Fn Try.prog 37 #[.pointer (some ⟨b, 0, none⟩), .int .i64 k] L (fun v L' => ∃ bk bn bw, v = .func (.func 76) #[] #[.pointer (some ⟨bn, 0, none⟩), .pointer (some ⟨bw, 0, none⟩)] ∧ L' = cells bn [.pointer (some ⟨b, 0, none⟩)] 23 :: cells bw [.func (.func 62) #[] #[.pointer (some ⟨bk, 0, none⟩)]] 107 :: cells bk [.int .i64 k] 3 :: L) := by
  refine Fn_enter Try.func37 rfl rfl rfl rfl ?_
  refine T_region ?_
  refine TL_box rfl rfl rfl ?_
  intro b3
  refine TL_y rfl rfl (Y_assign rfl) ?_
  refine TL_nil ?_
  refine T_region ?_
  refine TL_y rfl rfl (Y_move rfl) ?_
  refine TL_y rfl rfl (Y_make_func rfl rfl) ?_
  refine TL_call rfl rfl (where_spec) ?_
  rintro _ _ ⟨bn, bw, rfl, rfl⟩
  refine TL_y rfl rfl (Y_assign rfl) ?_
  refine TL_nil ?_
  refine T_ret ?_
  exact RetG_1 (.inl rfl) rfl (ResV.tmp rfl) GivesTo.g (⟨b3, bn, bw, rfl, rfl⟩)
abbrev nl0 : NS := ⟨2, 0, []⟩
abbrev npk : PackD := ⟨1, 0, 1, ⟨#[120]⟩⟩
abbrev npk2 : PackD := ⟨2, 0, 1, ⟨#[120]⟩⟩
abbrev nl1 : NS := ⟨2, 1, [npk]⟩
abbrev nl2 : NS := ⟨2, 2, [npk, npk2]⟩
abbrev nl3 : NS := ⟨2, 2, [npk2]⟩
theorem ns1 : sendS nl0 0 1 ⟨#[120]⟩ = (nl1, 1, 0) := rfl
theorem ns2 : twiceS nl1 1 = (nl2, 2, 0) := rfl
theorem ns3 : takeS nl2 1 = (nl3, npk, 0) := rfl
theorem ns4 : takeS nl3 1 = (nl3, pack0, 4) := rfl
theorem lives04_spec (L : List HP) : Fn Try.prog 11 #[] L (fun v L' => v = .bool true ∧ L' = L) := by
  refine Fn_enter Try.func11 rfl rfl rfl rfl ?_
  refine T_region ?_
  refine TL_y rfl rfl (Y_assign rfl) ?_
  refine TL_nil ?_
  refine T_region ?_
  refine TL_call rfl rfl (netNew_ok 2 (by decide) _) ?_
  rintro _ _ ⟨b1, rfl, rfl⟩
  rw [show nsNew 2 = nl0 from rfl]
  refine TL_y rfl rfl (Y_move rfl) ?_
  refine TL_y rfl rfl (Y_extract rfl rfl) ?_
  refine TL_y rfl rfl (Y_extract rfl rfl) ?_
  refine TL_y rfl rfl (Y_assign rfl) ?_
  refine TL_y rfl rfl (Y_assign rfl) ?_
  refine TL_nil ?_
  refine T_seq ?_
  refine T_region ?_
  refine TL_y rfl rfl (Y_move rfl) ?_
  refine TL_y rfl rfl (Y_ne rfl rfl) ?_
  refine TL_name 16 (v' := .bool false) rfl (congrArg Value.bool (by decide)) ?_
  refine TL_y rfl rfl (Y_move rfl) ?_
  refine TL_grun rfl rfl ?_
  refine TL_y rfl rfl (Y_move rfl) ?_
  refine TL_grun rfl rfl ?_
  refine TL_y rfl rfl (Y_equal rfl rfl (EqIs.ptr_nil)) ?_
  refine TL_name 19 (v' := .bool false) rfl (by simp) ?_
  refine TL_y rfl rfl (Y_pick_f rfl rfl) ?_
  refine TL_y rfl rfl (Y_move rfl) ?_
  refine TL_grun rfl rfl ?_
  refine TL_y rfl rfl (Y_move rfl) ?_
  refine TL_grun rfl rfl ?_
  refine TL_call rfl rfl (netTo_spec 1) ?_
  rintro _ _ ⟨bk, bn, bw, rfl, rfl⟩
  refine TL_grun rfl rfl ?_
  refine TL_y rfl rfl (Y_equal rfl rfl (EqIs.func_nil)) ?_
  refine TL_name 24 (v' := .bool false) rfl (rfl) ?_
  refine TL_y rfl rfl (Y_pick_f rfl rfl) ?_
  refine TL_nil ?_
  refine T_cond_false rfl ?_
  refine T_skip ?_
  refine thenS_normal ?_
  refine T_region ?_
  refine TL_y rfl rfl (Y_move rfl) ?_
  refine TL_pullk b1 ?_
  refine TL_call rfl rfl (netSend_spec (s := nl0) 0 1 ⟨#[120]⟩ (by decide)) ?_
  rintro _ _ ⟨rfl, rfl⟩
  rw [ns1]
  refine TL_y rfl rfl (Y_move rfl) ?_
  refine TL_y rfl rfl (Y_extract rfl rfl) ?_
  refine TL_y rfl rfl (Y_extract rfl rfl) ?_
  refine TL_y rfl rfl (Y_assign rfl) ?_
  refine TL_y rfl rfl (Y_assign rfl) ?_
  refine TL_nil ?_
  refine T_region ?_
  refine TL_y rfl rfl (Y_move rfl) ?_
  refine TL_pullk b1 ?_
  refine TL_call rfl rfl (netTwice_spec (s := nl1) 1 (i64In_mk (by decide)) (by decide)) ?_
  rintro _ _ ⟨rfl, rfl⟩
  rw [ns2]
  refine TL_y rfl rfl (Y_move rfl) ?_
  refine TL_y rfl rfl (Y_extract rfl rfl) ?_
  refine TL_y rfl rfl (Y_extract rfl rfl) ?_
  refine TL_y rfl rfl (Y_assign rfl) ?_
  refine TL_y rfl rfl (Y_assign rfl) ?_
  refine TL_nil ?_
  refine T_region ?_
  refine TL_y rfl rfl (Y_move rfl) ?_
  refine TL_pullk b1 ?_
  refine TL_call rfl rfl (netTake_spec (s := nl2) 1 (i64In_mk (by decide))) ?_
  rintro _ _ ⟨rfl, rfl⟩
  rw [ns3]
  refine TL_y rfl rfl (Y_move rfl) ?_
  refine TL_y rfl rfl (Y_extract rfl rfl) ?_
  refine TL_y rfl rfl (Y_extract rfl rfl) ?_
  refine TL_alloc rfl rfl ?_
  intro b7
  refine TL_store rfl rfl rfl rfl rfl rfl ?_
  refine TL_y rfl rfl (Y_assign rfl) ?_
  refine TL_nil ?_
  refine T_region ?_
  refine TL_y rfl rfl (Y_move rfl) ?_
  refine TL_pullk b1 ?_
  refine TL_call rfl rfl (netTake_spec (s := nl3) 1 (i64In_mk (by decide))) ?_
  rintro _ _ ⟨rfl, rfl⟩
  rw [ns4]
  refine TL_y rfl rfl (Y_move rfl) ?_
  refine TL_y rfl rfl (Y_extract rfl rfl) ?_
  refine TL_y rfl rfl (Y_extract rfl rfl) ?_
  refine TL_alloc rfl rfl ?_
  intro b9
  refine TL_store rfl rfl rfl rfl rfl rfl ?_
  refine TL_y rfl rfl (Y_assign rfl) ?_
  refine TL_nil ?_
  refine T_region ?_
  refine TL_y rfl rfl (Y_move rfl) ?_
  refine TL_y rfl rfl (Y_eq rfl rfl) ?_
  refine TL_name 47 (v' := .bool true) rfl (by simp) ?_
  refine TL_y rfl rfl (Y_move rfl) ?_
  refine TL_grun rfl rfl ?_
  refine TL_y rfl rfl (Y_move rfl) ?_
  refine TL_grun rfl rfl ?_
  refine TL_y rfl rfl (Y_eq rfl rfl) ?_
  refine TL_name 50 (v' := .bool true) rfl (by simp) ?_
  refine TL_y rfl rfl (Y_pick_t rfl rfl) ?_
  refine TL_y rfl rfl (Y_move rfl) ?_
  refine TL_grun rfl rfl ?_
  refine TL_y rfl rfl (Y_move rfl) ?_
  refine TL_grun rfl rfl ?_
  refine TL_y rfl rfl (Y_eq rfl rfl) ?_
  refine TL_name 54 (v' := .bool true) rfl (by simp) ?_
  refine TL_y rfl rfl (Y_pick_t rfl rfl) ?_
  refine TL_y rfl rfl (Y_move rfl) ?_
  refine TL_grun rfl rfl ?_
  refine TL_y rfl rfl (Y_load_agg rfl rfl) ?_
  refine TL_grun rfl rfl ?_
  refine TL_y rfl rfl (Y_build rfl rfl) ?_
  refine TL_grun rfl rfl ?_
  refine TL_y rfl rfl (Y_eq_pack (a := npk) (b := npk) rfl rfl) ?_
  refine TL_name 59 (v' := .bool true) rfl (by simp) ?_
  refine TL_y rfl rfl (Y_pick_t rfl rfl) ?_
  refine TL_y rfl rfl (Y_move rfl) ?_
  refine TL_grun rfl rfl ?_
  refine TL_y rfl rfl (Y_move rfl) ?_
  refine TL_grun rfl rfl ?_
  refine TL_y rfl rfl (Y_eq rfl rfl) ?_
  refine TL_name 63 (v' := .bool true) rfl (by simp) ?_
  refine TL_y rfl rfl (Y_pick_t rfl rfl) ?_
  refine TL_y rfl rfl (Y_move rfl) ?_
  refine TL_grun rfl rfl ?_
  refine TL_y rfl rfl (Y_move rfl) ?_
  refine TL_grun rfl rfl ?_
  refine TL_pullk b1 ?_
  refine TL_call rfl rfl (netLen_spec (s := nl3)) ?_
  rintro _ _ ⟨rfl, rfl⟩
  refine TL_grun rfl rfl ?_
  refine TL_y rfl rfl (Y_eq rfl rfl) ?_
  refine TL_name 68 (v' := .bool true) rfl (by simp) ?_
  refine TL_y rfl rfl (Y_pick_t rfl rfl) ?_
  refine TL_y rfl rfl (Y_assign rfl) ?_
  refine TL_nil ?_
  refine T_ret ?_
  exact RetG_1 (.inl rfl) rfl (ResV.tmp rfl) GivesTo.g (⟨rfl, rfl⟩)
end Go.SL
