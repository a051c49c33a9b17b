/- The rules of the logic: arrays. Nothing in this text is about one program. -/
import Derived.Test.YtibejpgjgkeheaaSlH
set_option linter.unusedVariables false
set_option linter.unusedSimpArgs false
namespace Go.SL
open Go
section
variable {r : Option Nat} {n : Nat} {P : Program} {ops : Array Oper} {rest : List Oper} {K : St → Prop} {Q : Exit → St → Prop} {D : List Deferred} {E : Env} {L L' : List HP} {d : Nat} {ty : TypeId} {pos : String} {af : Array Edge}
theorem Y_index_arr {x i : Operand} {t e : TypeId} {b o m len j : Nat} {ik : IntKind} [ht : TyDesc P t (.array len e)] [hz : TySize P e m] (hx : ev E x = some (.pointer (some ⟨b, o, none⟩))) (hi : ev E i = some (.int ik (j : Int))) (hb : j < len) :
    Yl P E L (.indexAddr t x i) ty (.pointer (some ⟨b, o + j * m, none⟩)) := fun n D W a w dst pos af g ha hs => by
  have h1 : (0 : Int) ≤ (j : Int) ∧ (j : Int) < (len : Int) := ⟨by omega, by omega⟩
  simp [execOp, Instr.indexAt, Instr.sureAddr, ha.ev hx, ha.ev hi, asIntOf, ht.run, hz.run, h1, Addr.add_plain]
  exact fun h => absurd h (by omega)
theorem Y_neg {x : Operand} {t : TypeId} {m : Int} (hx : ev E x = some (.int .i64 m)) (hb : -9223372036854775807 ≤ m ∧ m ≤ 9223372036854775807) : Yl P E L (.unOp .neg t x) ty (.int .i64 (-m)) := fun n D W a w dst pos af g ha hs => by
  have e : IntKind.i64.wrap (-m) = -m := IntWalk.i64_in _ (by omega)
  simp [execOp, ha.ev hx, Op.unary, Op.intArith, e]
theorem cellN_of : ∀ {l : List Value} {i : Nat} {v : Value}, l[i]? = some v → cellN l i = some v
  | [], i, v, h => by simp at h
  | x :: l, 0, v, h => by simpa [cellN] using h
  | x :: l, i + 1, v, h => by simpa [cellN] using cellN_of (l := l) (by simpa using h)
theorem setN_one : ∀ {l : List Value} {i : Nat} {v : Value}, i < l.length → setN i l [v] = some (l.set i v)
  | [], i, v, h => by simp at h
  | x :: l, 0, v, h => by simp [setN, overN]
  | x :: l, i + 1, v, h => by simp [setN, setN_one (l := l) (i := i) (v := v) (by simpa using h)]
theorem takeN_app : ∀ (l m : List Value), takeN l.length (l ++ m) = some l
  | [], m => by cases m <;> rfl
  | x :: l, m => by simp [takeN, takeN_app l m]
/-- Arrays of truths. -/
theorem eq_bools {t e : TypeId} [ht : TyDesc P t (.array 7 e)] [hz : TySize P e 1] [hg : TyAgg P e false] (dd : Nat) (w : World) (hn : ∀ x y, (Op.equalIn dd e (.bool x) (.bool y)).run P w = .ok (x == y) w) (a b : List Bool) (ha : a.length = 7) (hb : b.length = 7) :
    (Op.equalIn (dd + 1) t (.agg (a.map Value.bool).toArray) (.agg (b.map Value.bool).toArray)).run P w = .ok (decide (a = b)) w := by
  match a, ha with
  | [a0, a1, a2, a3, a4, a5, a6], _ =>
  match b, hb with
  | [b0, b1, b2, b3, b4, b5, b6], _ =>
  simp [Op.equalIn, ht.run, hz.run, part, hg.run, hn, Std.Legacy.Range.forIn_eq_forIn_range', List.range', Std.Legacy.Range.size]
  by_cases h0 : a0 = b0 <;> simp [h0]
  by_cases h1 : a1 = b1 <;> simp [h1]
  by_cases h2 : a2 = b2 <;> simp [h2]
  by_cases h3 : a3 = b3 <;> simp [h3]
  by_cases h4 : a4 = b4 <;> simp [h4]
  by_cases h5 : a5 = b5 <;> simp [h5]
  by_cases h6 : a6 = b6 <;> simp [h6]
theorem Y_eq_bools {x y : Operand} {t t' e : TypeId} {a b : List Bool} [ht : TyDesc P t (.array 7 e)] [he : TyDesc P e .bool] [hz : TySize P e 1] [hg : TyAgg P e false] (hgd : P.eqGuardType P.depth t = false) (hx : ev E x = some (.agg (a.map Value.bool).toArray)) (hy : ev E y = some (.agg (b.map Value.bool).toArray)) (ha : a.length = 7) (hb : b.length = 7) :
    Yl P E L (.binOp .eql t x y t') ty (.bool (decide (a = b))) := fun n D W ac w dst pos af g hv hs => by
  have h1 := eq_bools (P := P) (t := t) (e := e) 9999 w (fun x y => EqIs.bool 9998 w) a b ha hb
  have h2 : (Op.equal t (.agg (a.map Value.bool).toArray) (.agg (b.map Value.bool).toArray)).run P w = .ok (decide (a = b)) w := h1
  have h3 : ∀ xs ys : Array Value, Go.binOp .eql t (.agg xs) (.agg ys) = (do Pure.pure (Value.bool (← Op.equal t (.agg xs) (.agg ys))) : Sem Value) := fun xs ys => by simp only [Go.binOp]
  simp only [execOp, hv.ev hx, hv.ev hy, eqGuard, h3]
  simp [hgd, h2]
end
end Go.SL
