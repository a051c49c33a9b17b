/- The program's pairs of numbers: how they are compared. -/
import Derived.Test.YtibejpgjgkeheaaVoted
import Derived.Test.YtibejpgjgkeheaaSlN
set_option linter.unusedVariables false
set_option linter.unusedSimpArgs false
namespace Go.SL
open Go Go.Proofs
abbrev pairV (a : Int × Int) : Value := .agg (List.toArray [.int .i64 a.1, .int .i64 a.2])
theorem ballot_guard : Try.prog.eqGuardType Try.prog.depth 40 = false := by kernel_rfl
theorem ballot_held : Try.prog.stoodInHeld 40 = false := by kernel_rfl
theorem ballot_eq (dd : Nat) (w : World) (a b : Int × Int) : (Op.equalIn (dd + 2) 40 (pairV a) (pairV b)).run Try.prog w = .ok (decide (a = b)) w := by
  have hn : ∀ x y, (Op.equalIn (dd + 1) 3 (.int .i64 x) (.int .i64 y)).run Try.prog w = .ok (decide (x = y)) w := fun x y => EqIs.int (k := .i64) dd w
  generalize hdd : dd + 1 = d1 at hn
  have : dd + 2 = d1 + 1 := by omega
  rw [this]
  simp [Op.equalIn, Try.runUnderlying40, ballot_held, part, Try.isAgg3, hn]
  by_cases h1 : a.1 = b.1 <;> by_cases h2 : a.2 = b.2 <;> simp [h1, h2, Prod.ext_iff]
section
variable {E : Env} {L : List HP} {ty : TypeId}
theorem ballot_eq' (w : World) (a b : Int × Int) : (Op.equal 40 (pairV a) (pairV b)).run Try.prog w = .ok (decide (a = b)) w := ballot_eq 9998 w a b
theorem Y_eq_ballot {x y : Operand} {t' : TypeId} {a b : Int × Int} (hx : ev E x = some (pairV a)) (hy : ev E y = some (pairV b)) : Yl Try.prog E L (.binOp .eql 40 x y t') ty (.bool (decide (a = b))) := fun n D W ac w dst pos af g hv hs => by
  have h3 : ∀ xs ys : Array Value, Go.binOp .eql 40 (.agg xs) (.agg ys) = (do Pure.pure (Value.bool (← Op.equal 40 (.agg xs) (.agg ys))) : Sem Value) := fun xs ys => by simp only [Go.binOp]
  simp only [execOp, hv.ev hx, hv.ev hy, eqGuard, h3]
  simp [ballot_guard, ballot_eq']
theorem Y_ne_ballot {x y : Operand} {t' : TypeId} {a b : Int × Int} (hx : ev E x = some (pairV a)) (hy : ev E y = some (pairV b)) : Yl Try.prog E L (.binOp .neq 40 x y t') ty (.bool (decide (a ≠ b))) := fun n D W ac w dst pos af g hv hs => by
  have h3 : ∀ xs ys : Array Value, Go.binOp .neq 40 (.agg xs) (.agg ys) = (do Pure.pure (Value.bool (!(← Op.equal 40 (.agg xs) (.agg ys)))) : Sem Value) := fun xs ys => by simp only [Go.binOp]
  simp only [execOp, hv.ev hx, hv.ev hy, eqGuard, h3]
  simp [ballot_guard, ballot_eq']
end
theorem dot_guard : Try.prog.eqGuardType Try.prog.depth 164 = false := by kernel_rfl
theorem dot_held : Try.prog.stoodInHeld 164 = false := by kernel_rfl
theorem dot_eq (dd : Nat) (w : World) (a b : Int × Int) : (Op.equalIn (dd + 2) 164 (pairV a) (pairV b)).run Try.prog w = .ok (decide (a = b)) w := by
  have hn : ∀ x y, (Op.equalIn (dd + 1) 3 (.int .i64 x) (.int .i64 y)).run Try.prog w = .ok (decide (x = y)) w := fun x y => EqIs.int (k := .i64) dd w
  generalize hdd : dd + 1 = d1 at hn
  have : dd + 2 = d1 + 1 := by omega
  rw [this]
  simp [Op.equalIn, Try.runUnderlying164, dot_held, part, Try.isAgg3, hn]
  by_cases h1 : a.1 = b.1 <;> by_cases h2 : a.2 = b.2 <;> simp [h1, h2, Prod.ext_iff]
section
variable {E : Env} {L : List HP} {ty : TypeId}
theorem dot_eq' (w : World) (a b : Int × Int) : (Op.equal 164 (pairV a) (pairV b)).run Try.prog w = .ok (decide (a = b)) w := dot_eq 9998 w a b
theorem Y_eq_dot {x y : Operand} {t' : TypeId} {a b : Int × Int} (hx : ev E x = some (pairV a)) (hy : ev E y = some (pairV b)) : Yl Try.prog E L (.binOp .eql 164 x y t') ty (.bool (decide (a = b))) := fun n D W ac w dst pos af g hv hs => by
  have h3 : ∀ xs ys : Array Value, Go.binOp .eql 164 (.agg xs) (.agg ys) = (do Pure.pure (Value.bool (← Op.equal 164 (.agg xs) (.agg ys))) : Sem Value) := fun xs ys => by simp only [Go.binOp]
  simp only [execOp, hv.ev hx, hv.ev hy, eqGuard, h3]
  simp [dot_guard, dot_eq']
theorem Y_ne_dot {x y : Operand} {t' : TypeId} {a b : Int × Int} (hx : ev E x = some (pairV a)) (hy : ev E y = some (pairV b)) : Yl Try.prog E L (.binOp .neq 164 x y t') ty (.bool (decide (a ≠ b))) := fun n D W ac w dst pos af g hv hs => by
  have h3 : ∀ xs ys : Array Value, Go.binOp .neq 164 (.agg xs) (.agg ys) = (do Pure.pure (Value.bool (!(← Op.equal 164 (.agg xs) (.agg ys)))) : Sem Value) := fun xs ys => by simp only [Go.binOp]
  simp only [execOp, hv.ev hx, hv.ev hy, eqGuard, h3]
  simp [dot_guard, dot_eq']
end
end Go.SL
