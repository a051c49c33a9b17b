/- The rules of the logic: operations that compute, entering a function, leaving it, calls. Nothing in this text is about one program. -/
import Derived.Test.YtibejpgjgkeheaaSlA
import Derived.IntWalk
import Derived.Laws.Cells
set_option linter.unusedVariables false
set_option linter.unusedSimpArgs false
namespace Go.SL
open Go

/-! ### Facts on types and functions of one program -/
class TyAgg (P : Program) (t : TypeId) (b : outParam Bool) : Prop where
  run : ∀ w, (isAgg t).run P w = .ok b w
class TySize (P : Program) (t : TypeId) (k : outParam Nat) : Prop where
  run : ∀ w, (sizeOf t).run P w = .ok k w
class TyZero (P : Program) (t : TypeId) (z : outParam Value) : Prop where
  run : ∀ w, (zeroValue t).run P w = .ok z w
class TyDesc (P : Program) (t : TypeId) (d : outParam TypeDesc) : Prop where
  run : ∀ w, (underlying t).run P w = .ok d w
class TyField (P : Program) (t : TypeId) (i : Nat) (off : outParam Nat) (ft : outParam TypeId) : Prop where
  run : ∃ fs f, (∀ w, (underlying t).run P w = .ok (.struct fs) w) ∧ fs[i]? = some f ∧ f.offset = off ∧ f.type = ft ∧ ∃ k, k ≠ 0 ∧ ∀ w, (sizeOf ft).run P w = .ok k w
/-- Zero, cells and bytes of an element. -/
class TyElem (P : Program) (t : TypeId) (z : outParam Value) (size bytes : outParam Nat) : Prop where
  info : (P.info? t).map (fun i => (i.zero, i.size, i.bytes)) = some (some z, size, bytes)
class IsCall (P : Program) (f : FuncId) : Prop where
  run : ∀ args w, (callFunc f args).run P w = .ok (.enter f args) w

section
variable {r : Option Nat} {n : Nat} {P : Program} {ops : Array Oper} {rest : List Oper} {K : St → Prop} {Q : Exit → St → Prop} {D : List Deferred} {E : Env} {L L' : List HP} {d : Nat} {ty : TypeId} {pos : String} {af : Array Edge}

/-! ### The shapes of a step -/
theorem TL_nil {s : St} (h : K s) : TL r n P ops [] s K := fun W a w hh => ⟨rfl, s, h, hh⟩
theorem TL_val {o : Oper} (hdst : o.dst = some d) (hd : Nat.blt d n = true) (hg : o.guard = none) (hnd : ∀ c, o.op ≠ .defer c)
    (h : ∀ W a w, Holds n W ⟨D, E, L⟩ a w → ∃ v w' L', (execOp a.eval o).run P w = .ok (.value v) w' ∧ Sat W w' L' ∧ TL r n P ops rest ⟨D, (d, v) :: E, L'⟩ K) : TL r n P ops (o :: rest) ⟨D, E, L⟩ K := fun W a w hh => by
  obtain ⟨v, w', L', hr, hs, hk⟩ := h W a w hh
  refine wpListIn_plain hg fun K' hK => ⟨fun _ _ => trivial, ?_⟩
  rw [Oper.semAt_eq _ _ _ hnd, hr]
  refine hK _ _ ?_
  rw [hdst]
  exact hk W _ _ ⟨hh.1.put (by simpa using hd) v, hs⟩
theorem TL_skip {o : Oper} (hdst : o.dst = none) (hg : o.guard = none) (hnd : ∀ c, o.op ≠ .defer c)
    (h : ∀ W a w, Holds n W ⟨D, E, L⟩ a w → ∃ x w' L', (execOp a.eval o).run P w = .ok x w' ∧ (x = .skip ∨ ∃ v, x = .value v) ∧ Sat W w' L' ∧ TL r n P ops rest ⟨D, E, L'⟩ K) : TL r n P ops (o :: rest) ⟨D, E, L⟩ K := fun W a w hh => by
  obtain ⟨x, w', L', hr, hx, hs, hk⟩ := h W a w hh
  refine wpListIn_plain hg fun K' hK => ⟨fun _ _ => trivial, ?_⟩
  rw [Oper.semAt_eq _ _ _ hnd, hr]
  rcases hx with rfl | ⟨v, rfl⟩ <;> refine hK _ _ ?_ <;> rw [hdst] <;> exact hk W _ _ ⟨hh.1, hs⟩
/-- An operation that looks at no memory. -/
theorem TL_pure {op : Op} {v : Value} (hd : Nat.blt d n = true) (hnd : ∀ c, op ≠ .defer c) (hv : ∀ a w, View n D a E → (execOp a.eval ⟨some d, op, ty, pos, af, none⟩).run P w = .ok (.value v) w)
    (h : TL r n P ops rest ⟨D, (d, v) :: E, L⟩ K) : TL r n P ops (⟨some d, op, ty, pos, af, none⟩ :: rest) ⟨D, E, L⟩ K :=
  TL_val rfl hd rfl hnd fun W a w hh => ⟨v, w, L, hv a w hh.1, hh.2, h⟩

/-! ### Guards -/
theorem TL_grun {dst : Option Tmp} {op : Op} {j g : Nat} {want : Bool} (hy : (ops[j]?).bind (·.dst) = some g) (hl : look E g = some (.bool want))
    (h : TL r n P ops (⟨dst, op, ty, pos, af, none⟩ :: rest) ⟨D, E, L⟩ K) : TL r n P ops (⟨dst, op, ty, pos, af, some (j, want)⟩ :: rest) ⟨D, E, L⟩ K := fun W a w hh => by
  have hw : Region.wanted ⟨dst, op, ty, pos, af, some (j, want)⟩ (yielded ops a.tmps) = true := by
    simp [Region.wanted, yielded, hy, hh.1.get g _ hl]
  have h1 := h W a w hh
  simp only [wpListIn, Region.wanted, if_true] at h1
  simp only [wpListIn, hw, if_true]
  exact h1
theorem TL_gskip {op : Op} {j g : Nat} {want b : Bool} (hd : Nat.blt d n = true) (hy : (ops[j]?).bind (·.dst) = some g) (hl : look E g = some (.bool b)) (hb : (b == want) = false)
    (h : TL r n P ops rest ⟨D, (d, undef) :: E, L⟩ K) : TL r n P ops (⟨some d, op, ty, pos, af, some (j, want)⟩ :: rest) ⟨D, E, L⟩ K := fun W a w hh => by
  have hw : Region.wanted ⟨some d, op, ty, pos, af, some (j, want)⟩ (yielded ops a.tmps) = false := by
    simp only [Region.wanted, yielded, hy, Option.bind_some, hh.1.get g _ hl]
    simpa using hb
  simp only [wpListIn, hw, Bool.false_eq_true, if_false]
  exact ⟨fun _ _ => trivial, h W _ _ ⟨hh.1.put (by simpa using hd) _, hh.2⟩⟩
theorem TL_gskip0 {op : Op} {j g : Nat} {want b : Bool} (hy : (ops[j]?).bind (·.dst) = some g) (hl : look E g = some (.bool b)) (hb : (b == want) = false)
    (h : TL r n P ops rest ⟨D, E, L⟩ K) : TL r n P ops (⟨none, op, ty, pos, af, some (j, want)⟩ :: rest) ⟨D, E, L⟩ K := fun W a w hh => by
  have hw : Region.wanted ⟨none, op, ty, pos, af, some (j, want)⟩ (yielded ops a.tmps) = false := by
    simp only [Region.wanted, yielded, hy, Option.bind_some, hh.1.get g _ hl]
    simpa using hb
  simp only [wpListIn, hw, Bool.false_eq_true, if_false]
  exact ⟨fun _ _ => trivial, h W _ _ hh⟩
/-- A slot's truth is taken both ways. -/
theorem TL_split (g : Nat) {b : Bool} (hl : look E g = some (.bool b)) (ht : b = true → TL r n P ops rest ⟨D, (g, .bool true) :: E, L⟩ K) (hf : b = false → TL r n P ops rest ⟨D, (g, .bool false) :: E, L⟩ K) : TL r n P ops rest ⟨D, E, L⟩ K := by
  have hless : ∀ a, View n D a E → View n D a ((g, .bool b) :: E) := fun a ha => ⟨ha.size, ha.defers, fun i v hv => by
    simp only [look] at hv
    cases e : Nat.beq g i with
    | true =>
      rw [e] at hv
      simp only [cond_true, Option.some.injEq] at hv
      have : g = i := Nat.eq_of_beq_eq_true e
      subst this; subst hv
      exact ha.get g _ hl
    | false =>
      rw [e] at hv
      exact ha.get i v hv⟩
  cases b with
  | true => exact fun W a w hh => ht rfl W a w ⟨hless a hh.1, hh.2⟩
  | false => exact fun W a w hh => hf rfl W a w ⟨hless a hh.1, hh.2⟩
theorem TL_splitd (g : Nat) {p : Prop} [Decidable p] (hl : look E g = some (.bool (decide p))) (ht : p → TL r n P ops rest ⟨D, (g, .bool true) :: E, L⟩ K) (hf : ¬ p → TL r n P ops rest ⟨D, (g, .bool false) :: E, L⟩ K) : TL r n P ops rest ⟨D, E, L⟩ K :=
  TL_split g hl (fun e => ht (of_decide_eq_true e)) (fun e => hf (of_decide_eq_false e))
/-- A slot's value by another name. -/
theorem TL_name (g : Nat) {v v' : Value} (hl : look E g = some v) (e : v = v') (h : TL r n P ops rest ⟨D, (g, v') :: E, L⟩ K) : TL r n P ops rest ⟨D, E, L⟩ K := by
  subst e
  refine fun W a w hh => h W a w ⟨⟨hh.1.size, hh.1.defers, fun i u hv => ?_⟩, hh.2⟩
  simp only [look] at hv
  cases e : Nat.beq g i with
  | true =>
    rw [e] at hv
    simp only [cond_true, Option.some.injEq] at hv
    have : g = i := Nat.eq_of_beq_eq_true e
    subst this; subst hv
    exact hh.1.get g _ hl
  | false =>
    rw [e] at hv
    exact hh.1.get i u hv

/-- op comes to v wherever these slots and these assertions hold, and leaves the world alone. -/
def Yl (P : Program) (E : Env) (L : List HP) (op : Op) (ty : TypeId) (v : Value) : Prop :=
  ∀ n D W a w dst pos af g, View n D a E → Sat W w L → (execOp a.eval ⟨dst, op, ty, pos, af, g⟩).run P w = .ok (.value v) w
theorem Yl.val {op : Op} {v v' : Value} (h : Yl P E L op ty v) (e : v = v') : Yl P E L op ty v' := e ▸ h
theorem Yl.gives {op : Op} {v : Value} (h : Yl P E L' op ty v) (g : Gives L L') : Yl P E L op ty v := fun n D W a w dst pos af gd ha hs => h n D W a w dst pos af gd ha (hs.gives g)
def plainOp : Op → Bool
  | .select _ _ => false
  | .defer _ => false
  | _ => true
theorem TL_y {op : Op} {v : Value} (hd : Nat.blt d n = true) (hp : plainOp op = true) (hy : Yl P E L op ty v) (h : TL r n P ops rest ⟨D, (d, v) :: E, L⟩ K) : TL r n P ops (⟨some d, op, ty, pos, af, none⟩ :: rest) ⟨D, E, L⟩ K :=
  TL_val rfl hd rfl (fun c e => by subst e; cases hp) fun W a w hh => ⟨v, w, L, hy n D W a w _ _ _ _ hh.1 hh.2, hh.2, h⟩

/-! ### Operations that compute -/
theorem Y_move {x : Operand} {v : Value} (hx : ev E x = some v) : Yl P E L (.move x) ty (v) := fun n D W a w dst pos af g ha hs => by simp only [execOp, ha.ev hx]; rfl
theorem Y_assign {x : Operand} {v : Value} (hx : ev E x = some v) : Yl P E L (.assign x) ty (v) := fun n D W a w dst pos af g ha hs => by simp only [execOp, ha.ev hx]; rfl
theorem Y_pick {c x y : Operand} {b : Bool} {u v : Value} (hc : ev E c = some (.bool b)) (hx : ev E x = some u) (hy : ev E y = some v) : Yl P E L (.pick c x y) ty (bif b then u else v) := fun n D W a w dst pos af g ha hs => by simp only [execOp, ha.ev hc, ha.ev hx, ha.ev hy]; cases b <;> rfl
theorem Y_pick_t {c x y : Operand} {u : Value} (hc : ev E c = some (.bool true)) (hx : ev E x = some u) : Yl P E L (.pick c x y) ty (u) := fun n D W a w dst pos af g ha hs => by simp only [execOp, ha.ev hc, ha.ev hx]; rfl
theorem Y_pick_f {c x y : Operand} {u : Value} (hc : ev E c = some (.bool false)) (hy : ev E y = some u) : Yl P E L (.pick c x y) ty (u) := fun n D W a w dst pos af g ha hs => by simp only [execOp, ha.ev hc, ha.ev hy]; rfl
theorem Y_nil_check {x : Operand} {ad : Addr} (hx : ev E x = some (.pointer (some ad))) : Yl P E L (.nilCheck x) ty (.pointer (some ad)) := fun n D W a w dst pos af g ha hs => by simp only [execOp, ha.ev hx]; rfl
theorem Y_nil_check_fn {x : Operand} {f : FuncId} {as cs : Array Value} (hx : ev E x = some (.func (.func f) as cs)) : Yl P E L (.nilCheck x) ty (.func (.func f) as cs) := fun n D W a w dst pos af g ha hs => by simp only [execOp, ha.ev hx]; rfl
theorem Y_extract {x : Operand} {i : Nat} {vs : List Value} {v : Value} (hx : ev E x = some (.tuple vs.toArray)) (hi : vs[i]? = some v) : Yl P E L (.extract x i) ty (v) := fun n D W a w dst pos af g ha hs => by simp [execOp, ha.ev hx, Instr.extract, hi]
theorem Y_make_func {fn : Go.Fn} {as cs : List Operand} {us vs : List Value} (ha : evl E as = some us) (hc : evl E cs = some vs) : Yl P E L (.makeFunc fn as.toArray cs.toArray) ty (.func fn us.toArray vs.toArray) := fun n D W a w dst pos af g hv hs => by simp [execOp, Instr.makeFunc, hv.evl ha, hv.evl hc]
theorem Y_not {x : Operand} {t : TypeId} {b : Bool} (hx : ev E x = some (.bool b)) : Yl P E L (.unOp .not t x) ty (.bool (!b)) := fun n D W a w dst pos af g ha hs => by simp only [execOp, ha.ev hx]; rfl
theorem Y_not_t {x : Operand} {t : TypeId} (hx : ev E x = some (.bool true)) : Yl P E L (.unOp .not t x) ty (.bool false) := Y_not hx
theorem Y_not_f {x : Operand} {t : TypeId} (hx : ev E x = some (.bool false)) : Yl P E L (.unOp .not t x) ty (.bool true) := Y_not hx
theorem Y_not_d {x : Operand} {t : TypeId} {p : Prop} [Decidable p] (hx : ev E x = some (.bool (decide p))) : Yl P E L (.unOp .not t x) ty (.bool (decide (¬ p))) := (Y_not hx).val (by rw [decide_not])

theorem run_binop {op : BinOp} {t : TypeId} {x y : Operand} {t' : TypeId} {k : IntKind} {m l : Int} {a : Act} {w : World} {dst : Option Tmp} {g : Option (Nat × Bool)} (hx : a.eval x = .int k m) (hy : a.eval y = .int k l) :
    (execOp a.eval ⟨dst, .binOp op t x y t', ty, pos, af, g⟩).run P w = (do let v ← Go.binOp op t (.int k m) (.int k l); Sem.pure (Next.value v) : Sem Next).run P w := by
  simp only [execOp, hx, hy, eqGuard]
  cases op <;> rfl
theorem run_intcmp {op : BinOp} {t : TypeId} {k : IntKind} {m l : Int} (h : op = .eql ∨ op = .neq ∨ op = .lss ∨ op = .leq ∨ op = .gtr ∨ op = .geq) : Go.binOp op t (.int k m) (.int k l) = Op.intCmp op m l := by
  rcases h with rfl | rfl | rfl | rfl | rfl | rfl <;> simp [Go.binOp]
section ints
variable {t t' : TypeId} {x y : Operand} {k : IntKind} {m l : Int}
theorem Y_eq (hx : ev E x = some (.int k m)) (hy : ev E y = some (.int k l)) : Yl P E L (.binOp .eql t x y t') ty (.bool (decide (m = l))) := fun n D W a w dst pos af g ha hs => by rw [run_binop (ha.ev hx) (ha.ev hy), run_intcmp (by simp)]; rfl
theorem Y_ne (hx : ev E x = some (.int k m)) (hy : ev E y = some (.int k l)) : Yl P E L (.binOp .neq t x y t') ty (.bool (decide (m ≠ l))) := fun n D W a w dst pos af g ha hs => by rw [run_binop (ha.ev hx) (ha.ev hy), run_intcmp (by simp)]; simp only [Op.intCmp, decide_not]; rfl
theorem Y_lt (hx : ev E x = some (.int k m)) (hy : ev E y = some (.int k l)) : Yl P E L (.binOp .lss t x y t') ty (.bool (decide (m < l))) := fun n D W a w dst pos af g ha hs => by rw [run_binop (ha.ev hx) (ha.ev hy), run_intcmp (by simp)]; rfl
theorem Y_le (hx : ev E x = some (.int k m)) (hy : ev E y = some (.int k l)) : Yl P E L (.binOp .leq t x y t') ty (.bool (decide (m ≤ l))) := fun n D W a w dst pos af g ha hs => by rw [run_binop (ha.ev hx) (ha.ev hy), run_intcmp (by simp)]; rfl
theorem Y_gt (hx : ev E x = some (.int k m)) (hy : ev E y = some (.int k l)) : Yl P E L (.binOp .gtr t x y t') ty (.bool (decide (l < m))) := fun n D W a w dst pos af g ha hs => by rw [run_binop (ha.ev hx) (ha.ev hy), run_intcmp (by simp)]; rfl
theorem Y_ge (hx : ev E x = some (.int k m)) (hy : ev E y = some (.int k l)) : Yl P E L (.binOp .geq t x y t') ty (.bool (decide (l ≤ m))) := fun n D W a w dst pos af g ha hs => by rw [run_binop (ha.ev hx) (ha.ev hy), run_intcmp (by simp)]; rfl
theorem Y_add_w (hx : ev E x = some (.int k m)) (hy : ev E y = some (.int k l)) : Yl P E L (.binOp .add t x y t') ty (.int k (k.wrap (m + l))) := fun n D W a w dst pos af g ha hs => by rw [run_binop (ha.ev hx) (ha.ev hy)]; simp [Go.binOp, Op.intArith]
theorem Y_sub_w (hx : ev E x = some (.int k m)) (hy : ev E y = some (.int k l)) : Yl P E L (.binOp .sub t x y t') ty (.int k (k.wrap (m - l))) := fun n D W a w dst pos af g ha hs => by rw [run_binop (ha.ev hx) (ha.ev hy)]; simp [Go.binOp, Op.intArith]
theorem Y_mul_w (hx : ev E x = some (.int k m)) (hy : ev E y = some (.int k l)) : Yl P E L (.binOp .mul t x y t') ty (.int k (k.wrap (m * l))) := fun n D W a w dst pos af g ha hs => by rw [run_binop (ha.ev hx) (ha.ev hy)]; simp [Go.binOp, Op.intArith]
theorem Y_add (hx : ev E x = some (.int .i64 m)) (hy : ev E y = some (.int .i64 l)) (hb : -9223372036854775808 ≤ m + l ∧ m + l ≤ 9223372036854775807) : Yl P E L (.binOp .add t x y t') ty (.int .i64 (m + l)) := (Y_add_w hx hy).val (by rw [IntWalk.i64_in _ hb])
theorem Y_sub (hx : ev E x = some (.int .i64 m)) (hy : ev E y = some (.int .i64 l)) (hb : -9223372036854775808 ≤ m - l ∧ m - l ≤ 9223372036854775807) : Yl P E L (.binOp .sub t x y t') ty (.int .i64 (m - l)) := (Y_sub_w hx hy).val (by rw [IntWalk.i64_in _ hb])
theorem Y_mul (hx : ev E x = some (.int .i64 m)) (hy : ev E y = some (.int .i64 l)) (hb : -9223372036854775808 ≤ m * l ∧ m * l ≤ 9223372036854775807) : Yl P E L (.binOp .mul t x y t') ty (.int .i64 (m * l)) := (Y_mul_w hx hy).val (by rw [IntWalk.i64_in _ hb])
theorem Y_quo (hx : ev E x = some (.int .i64 m)) (hy : ev E y = some (.int .i64 l)) (hb : 0 ≤ m ∧ m ≤ 9223372036854775807 ∧ 1 ≤ l) : Yl P E L (.binOp .quo t x y t') ty (.int .i64 (m / l)) := fun n D W a w dst pos af g ha hs => by rw [run_binop (ha.ev hx) (ha.ev hy)]; simp only [Go.binOp, Op.intDiv]; rw [if_neg (by simp), if_neg (by omega), IntWalk.i64_quo _ _ hb]; rfl
theorem Y_rem (hx : ev E x = some (.int k m)) (hy : ev E y = some (.int k l)) (hb : l ≠ 0) : Yl P E L (.binOp .rem t x y t') ty (.int k (m.tmod l)) := fun n D W a w dst pos af g ha hs => by rw [run_binop (ha.ev hx) (ha.ev hy)]; simp only [Go.binOp, Op.intDiv]; rw [if_neg (by simp), if_neg hb]; rfl
/-- Bits, as the model reckons them. -/
def bitsOf (op : BinOp) (k : IntKind) (x y : Int) : Int := k.wrap ((match op with
  | .and => BitVec.ofInt k.bits x &&& BitVec.ofInt k.bits y
  | .or => BitVec.ofInt k.bits x ||| BitVec.ofInt k.bits y
  | .xor => BitVec.ofInt k.bits x ^^^ BitVec.ofInt k.bits y
  | _ => BitVec.ofInt k.bits x &&& ~~~BitVec.ofInt k.bits y).toNat)
theorem Y_bits {op : BinOp} (hop : op = .and ∨ op = .or ∨ op = .xor ∨ op = .andNot) (hx : ev E x = some (.int k m)) (hy : ev E y = some (.int k l)) : Yl P E L (.binOp op t x y t') ty (.int k (bitsOf op k m l)) := fun n D W a w dst pos af g ha hs => by rw [run_binop (ha.ev hx) (ha.ev hy)]; rcases hop with rfl | rfl | rfl | rfl <;> simp [Go.binOp, Op.intBits, bitsOf] <;> rfl
theorem Y_shl {k' : IntKind} (hx : ev E x = some (.int k m)) (hy : ev E y = some (.int k' l)) (hb : 0 ≤ l) : Yl P E L (.binOp .shl t x y t') ty (.int k (k.wrap (m * 2 ^ min l.toNat k.bits))) := fun n D W a w dst pos af g ha hs => by simp only [execOp, ha.ev hx, ha.ev hy, eqGuard, Go.binOp, Op.shift]; have h0 : ¬ l < 0 := (by omega); simp [h0]
theorem Y_shr {k' : IntKind} (hx : ev E x = some (.int k m)) (hy : ev E y = some (.int k' l)) (hb : 0 ≤ l) : Yl P E L (.binOp .shr t x y t') ty (.int k (m.fdiv (2 ^ min l.toNat k.bits))) := fun n D W a w dst pos af g ha hs => by simp only [execOp, ha.ev hx, ha.ev hy, eqGuard, Go.binOp, Op.shift]; have h0 : ¬ l < 0 := (by omega); simp [h0]
theorem Y_conv {k' : IntKind} {src dst : TypeId} {ds : TypeDesc} [h1 : TyDesc P src ds] [h2 : TyDesc P dst (.int k')] (hx : ev E x = some (.int k m)) : Yl P E L (.convert src dst x) ty (.int k' (k'.wrap m)) := fun n D W a w dst pos af g ha hs => by simp [execOp, ha.ev hx, convert, h1.run, h2.run, Conv.intToInt]
theorem Y_conv_in {k' : IntKind} {src dst : TypeId} {ds : TypeDesc} [h1 : TyDesc P src ds] [h2 : TyDesc P dst (.int k')] (hx : ev E x = some (.int k m)) (hb : k'.wrap m = m) : Yl P E L (.convert src dst x) ty (.int k' m) := (Y_conv hx).val (by rw [hb])
end ints

/-! ### Regions, functions, calls -/
theorem T_region {id : Nat} {l : List Oper} {y : Code} {s : St} (h : TL r n P l.toArray l s (fun s' => T r n P y s' Q)) : T r n P (.seq (.region id l.toArray false) y) s Q := T_seq fun W a w hh =>
  wpIn_region_lit (by
    have := h W a w hh
    exact wpListIn_mono (fun e a' w' ⟨he, s', q, k⟩ => ⟨s', by subst he; exact q, k⟩) _ a w this)
theorem T_region_last {id : Nat} {l : List Oper} {s : St} (h : TL r n P l.toArray l s (fun s' => Q .normal s')) : T r n P (.region id l.toArray false) s Q := fun W a w hh =>
  wpIn_region_lit (by
    have := h W a w hh
    exact wpListIn_mono (fun e a' w' ⟨he, s', q, k⟩ => ⟨s', by subst he; exact q, k⟩) _ a w this)

end
end Go.SL
