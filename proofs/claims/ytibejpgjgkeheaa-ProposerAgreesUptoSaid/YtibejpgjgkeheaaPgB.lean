/- What the laws of this claim need, together: the logic, data in memory, the walks of functions. -/
import Derived.Test.YtibejpgjgkeheaaPgA
import Derived.Laws.OwnMore
import Derived.Maps.RangeRun
import Derived.Maps.Keyed
set_option linter.unusedVariables false
set_option linter.unusedSimpArgs false
set_option linter.unusedVariables false
set_option linter.unusedSimpArgs false
namespace Go.SL
open Go

/-- The values of these slots. -/
def keepO : List Nat → Env → Option Env
  | [], _ => some []
  | k :: ks, E => match look E k with
    | some v => match keepO ks E with
      | some r => some ((k, v) :: r)
      | none => none
    | none => none

section
variable {r : Option Nat} {n : Nat} {P : Program} {ops : Array Oper} {rest : List Oper} {K : St → Prop} {Q : Exit → St → Prop} {D : List Deferred} {E E' kv : Env} {L L' : List HP} {d : Nat} {ty : TypeId} {pos : String} {af : Array Edge} {s : St}

theorem TL_mono {l : List Oper} {K K' : St → Prop} {s : St} (h : TL r n P ops l s K) (hk : ∀ s, K s → K' s) : TL r n P ops l s K' := fun W a w hh =>
  wpListIn_mono (fun e a' w' ⟨he, s', q, k⟩ => ⟨he, s', hk _ q, k⟩) l a w (h W a w hh)
theorem T_loopK {c : Code} {σ : Type} (ks : List Nat) (I : σ → Prop) (U : σ → Env → Env) (M : σ → List HP) (μ : σ → Nat) (x0 : σ) (hk : keepO ks E = some kv) (h0 : I x0) (hg : Gives L (M x0)) (h1 : ∀ i v, look (U x0 kv) i = some v → look E i = some v)
    (round : ∀ x, I x → T r n P c ⟨D, U x kv, M x⟩ (thenS (fun s' => ∃ y, I y ∧ μ y < μ x ∧ ∀ W a w, Holds n W s' a w → Holds n W ⟨D, U y kv, M y⟩ a w) Q)) : T r n P (.loop c) ⟨D, E, L⟩ Q :=
  T_loop I (fun x => ⟨D, U x kv, M x⟩) μ x0 h0 (holds_to h1 hg) round
def takeO {α : Type} : Nat → List α → List α
  | k + 1, x :: l => x :: takeO k l
  | _, _ => []
def dropO {α : Type} : Nat → List α → List α
  | k + 1, _ :: l => dropO k l
  | _, l => l
theorem takeO_dropO {α : Type} : ∀ (k : Nat) (l : List α), takeO k l ++ dropO k l = l
  | 0, l => rfl
  | k + 1, [] => rfl
  | k + 1, x :: l => by simp [takeO, dropO, takeO_dropO k l]
/-- A truth that later operations yield only on one way: p, on all ways. -/
theorem TL_both {l : List Oper} (k g : Nat) (p : Prop) [Decidable p] (h1 : TL r n P ops (takeO k l) ⟨D, E, L⟩ (fun s' => ∀ W a w, Holds n W s' a w → Holds n W ⟨D, (g, .bool (decide p)) :: E, L⟩ a w)) (h2 : TL r n P ops (dropO k l) ⟨D, (g, .bool (decide p)) :: E, L⟩ K) : TL r n P ops l ⟨D, E, L⟩ K := by
  rw [← takeO_dropO k l]
  exact TL_cut (σ := Unit) (fun _ => True) (fun _ => ⟨D, (g, .bool (decide p)) :: E, L⟩) (TL_mono h1 fun s h => ⟨(), trivial, h⟩) (fun _ _ => h2)

theorem TL_gskip_u {op : Op} {j g : Nat} {want : Bool} (hd : Nat.blt d n = true) (hy : (ops[j]?).bind (·.dst) = some g) (hl : look E g = some undef)
    (h : TL r n P ops rest ⟨D, (d, undef) :: E, L⟩ K) : TL r n P ops (⟨some d, op, ty, pos, af, some (j, want)⟩ :: rest) ⟨D, E, L⟩ K := fun W a w hh => by
  have hw : Region.wanted ⟨some d, op, ty, pos, af, some (j, want)⟩ (yielded ops a.tmps) = false := by
    simp only [Region.wanted, yielded, hy, Option.bind_some, hh.1.get g _ hl]
    rfl
  simp only [wpListIn, hw, Bool.false_eq_true, if_false]
  exact ⟨fun _ _ => trivial, h W _ _ ⟨hh.1.put (by simpa using hd) _, hh.2⟩⟩
theorem TL_pullc (b : Nat) {l : List Value} {t : TypeId} {L1 : List HP} [hf : FindC L b l t L1] (h : TL r n P ops rest ⟨D, E, cells b l t :: L1⟩ K) : TL r n P ops rest ⟨D, E, L⟩ K := TL_gives hf.g h
/-! ### Returns that let go of what nobody wants -/
section
variable {fn : Func} {Φ : Value → List HP → Prop} {x y z : ResultVar} {u v t : Value} {e : Exit}
theorem RetG_0 (he : e = .ret ∨ e = .normal) (hr : fn.results = #[]) (g : Gives L L') (h : Φ (.tuple #[]) L') : RetQ P fn Φ e ⟨[], E, L⟩ := RetQ.gives g (Ret_0 he hr h)
theorem RetQ.imp {Ψ : Value → List HP → Prop} {L L' : List HP} (g : Gives L L') (hm : ∀ v, Ψ v L → Φ v L') (h : RetQ P fn (fun v L1 => Ψ v L ∧ L1 = L) e ⟨[], E, L⟩) : RetQ P fn Φ e ⟨[], E, L⟩ := by
  cases e <;> simp only [RetQ] at h ⊢
  case ret => exact ⟨h.1, let ⟨v, L1, a, b⟩ := h.2; ⟨v, L', hm v a.1, fun n W c w hh => let k := b n W c w hh; ⟨by rw [a.2] at k; exact k.1.gives g, k.2⟩⟩⟩
  case normal => exact ⟨h.1, let ⟨v, L1, a, b⟩ := h.2; ⟨v, L', hm v a.1, fun n W c w hh => let k := b n W c w hh; ⟨by rw [a.2] at k; exact k.1.gives g, k.2⟩⟩⟩
theorem RetG_1 (he : e = .ret ∨ e = .normal) (hr : fn.results = #[x]) (hx : ResV P E L x v) (g : Gives L L') (h : Φ v L') : RetQ P fn Φ e ⟨[], E, L⟩ :=
  RetQ.imp (Ψ := fun u _ => u = v) g (fun u e => e ▸ h) (Ret_1 he hr hx ⟨rfl, rfl⟩)
theorem RetG_2 (he : e = .ret ∨ e = .normal) (hr : fn.results = #[x, y]) (hx : ResV P E L x u) (hy : ResV P E L y v) (g : Gives L L') (h : Φ (.tuple #[u, v]) L') : RetQ P fn Φ e ⟨[], E, L⟩ :=
  RetQ.imp (Ψ := fun q _ => q = .tuple #[u, v]) g (fun q e => e ▸ h) (Ret_2 he hr hx hy ⟨rfl, rfl⟩)
theorem RetG_3 (he : e = .ret ∨ e = .normal) (hr : fn.results = #[x, y, z]) (hx : ResV P E L x u) (hy : ResV P E L y v) (hz : ResV P E L z t) (g : Gives L L') (h : Φ (.tuple #[u, v, t]) L') : RetQ P fn Φ e ⟨[], E, L⟩ :=
  RetQ.imp (Ψ := fun q _ => q = .tuple #[u, v, t]) g (fun q e => e ▸ h) (Ret_3 he hr hx hy hz ⟨rfl, rfl⟩)
end

/-! ### An element's address -/
variable {α : Type} {R : Rep α} {A : Option Addr} {c : Nat} {xs : List α}
def AtA (A : Option Addr) (k b o : Nat) : Prop := ∃ o', A = some ⟨b, o', none⟩ ∧ o = o' + k
theorem Y_index_at {x i : Operand} {t e : TypeId} {k m b o j : Nat} {ik : IntKind} [ht : TyDesc P t (.slice e)] [hz : TySize P e m] (hx : ev E x = some (.slice A k c)) (hi : ev E i = some (.int ik (j : Int))) (hb : j < k) (ha : AtA A (j * m) b o) :
    Yl P E L (.indexAddr t x i) ty (.pointer (some ⟨b, o + 0, none⟩)) := by
  obtain ⟨o', rfl, rfl⟩ := ha
  have := Y_index_addr (P := P) (L := L) (ty := ty) (t := t) (e := e) (m := m) hx hi ⟨by omega, by omega⟩
  simpa using this
theorem at_gives (hk : SlK L R A c xs) {i : Nat} {x : α} (hx : xs[i]? = some x) : ∀ W w, Sat W w L → ∃ b o l, AtA A (i * R.sz) b o ∧ Sat W w (row b o l :: is R x l :: L) := fun W w hs => by
  obtain ⟨M, hM, h1, h2, h3⟩ := hs.knows hk
  rcases h3 with e | ⟨b, o, e, hall⟩
  · rw [e] at hx; simp at hx
  · subst e
    obtain ⟨l, hl⟩ := elem_gives hk (i := (i : Int)) (by simpa using hx) W w hs
    exact ⟨b, o + i * R.sz, l, ⟨o, rfl, rfl⟩, by simpa using hl⟩
theorem TL_at (hk : SlK L R A c xs) {i : Nat} {x : α} (hx : xs[i]? = some x) (h : ∀ b o l, AtA A (i * R.sz) b o → TL r n P ops rest ⟨D, E, row b o l :: is R x l :: L⟩ K) : TL r n P ops rest ⟨D, E, L⟩ K := fun W a w hh => by
  obtain ⟨b, o, l, ha, hl⟩ := at_gives hk hx W w hh.2
  exact h b o l ha W a w ⟨hh.1, hl⟩
theorem TL_is {R : Rep α} {u : α} {l : List Value} {b o : Nat} {p : Prop} (hp : ∀ M, R.rep M u l → p) (h : p → TL r n P ops rest ⟨D, E, row b o l :: L⟩ K) : TL r n P ops rest ⟨D, E, row b o l :: is R u l :: L⟩ K :=
  TL_fact (φ := fun M => R.rep M u l) (Knows.tail (Knows.head' fun _ _ h => h)) hp fun q => TL_gives (Gives.cons _ (Gives.drop _ _)) (h q)
theorem TL_index {x i : Operand} {t e : TypeId} {ik : IntKind} {j : Nat} {u : α} [ht : TyDesc P t (.slice e)] [hz : TySize P e R.sz] (hd : Nat.blt d n = true) (hx : ev E x = some (.slice A xs.length c)) (hi : ev E i = some (.int ik (j : Int))) (hk : SlK L R A c xs) (hu : xs[j]? = some u)
    (h : ∀ b o l, TL r n P ops rest ⟨D, (d, .pointer (some ⟨b, o + 0, none⟩)) :: E, row b o l :: is R u l :: L⟩ K) : TL r n P ops (⟨some d, .indexAddr t x i, ty, pos, af, none⟩ :: rest) ⟨D, E, L⟩ K := by
  have hlt : j < xs.length := (List.getElem?_eq_some_iff.1 hu).1
  refine TL_at hk hu fun b o l ha => ?_
  exact TL_y hd rfl (Y_index_at hx hi hlt ha) (h b o l)
/-- Of a slice of numbers. -/
theorem TL_index_int {k : IntKind} {xs : List Int} {x i : Operand} {t e : TypeId} {ik : IntKind} {j : Nat} {u : Int} [ht : TyDesc P t (.slice e)] [hz : TySize P e 1] (hd : Nat.blt d n = true) (hx : ev E x = some (.slice A xs.length c)) (hi : ev E i = some (.int ik (j : Int))) (hk : SlK L (intR k) A c xs) (hu : xs[j]? = some u)
    (h : intIn k u → ∀ b o, TL r n P ops rest ⟨D, (d, .pointer (some ⟨b, o + 0, none⟩)) :: E, row b o [.int k u] :: L⟩ K) : TL r n P ops (⟨some d, .indexAddr t x i, ty, pos, af, none⟩ :: rest) ⟨D, E, L⟩ K :=
  TL_index (R := intR k) hd hx hi hk hu fun b o l => TL_is (p := l = [.int k u] ∧ intIn k u) (fun M h => h) fun ⟨e, hk⟩ => by subst e; exact h hk b o
theorem SlK.cap (h : SlK L R A c xs) : SlK L R A xs.length xs := h.mono fun M h => ⟨Nat.le_refl _, h.2.1, h.2.2⟩
theorem SlK.take (h : SlK L R A c xs) (j : Nat) : SlK L R A c (xs.take j) := h.mono fun M h => by
  refine ⟨by have := h.1; rw [List.length_take]; omega, by have := h.2.1; rw [List.length_take]; omega, ?_⟩
  rcases h.2.2 with e | ⟨b, o, e, cs, t, fr, hb, hall⟩
  · left; simp [e]
  · right
    refine ⟨b, o, e, cs, t, fr, hb, fun i x hi => hall i x ?_⟩
    rw [List.getElem?_take] at hi
    split at hi
    · exact hi
    · cases hi
theorem SlK.drop (h : SlK L R A c xs) {i : Nat} (hi : i ≤ xs.length) : SlK L R (cutA A i c R.sz) (c - i) (xs.drop i) := h.mono fun M h => by
  have := h.cut i xs.length c hi (Nat.le_refl _) h.1
  rwa [List.take_length] at this
theorem SlK.lens {R : Rep α} (h : SlK L R A c xs) {c' : Code} (k : xs.length ≤ c ∧ xs.length ≤ maxEl → T r n P c' ⟨D, E, L⟩ Q) : T r n P c' ⟨D, E, L⟩ Q := T_fact h.len (fun _ h => h) k
theorem SlK.lensL {R : Rep α} (h : SlK L R A c xs) (k : xs.length ≤ c ∧ xs.length ≤ maxEl → TL r n P ops rest ⟨D, E, L⟩ K) : TL r n P ops rest ⟨D, E, L⟩ K := TL_fact h.len (fun _ h => h) k
theorem SlK.none_nil (h : SlK L R none c xs) : Knows L (fun _ => xs = []) := h.mono fun M h => by
  rcases h.2.2 with e | ⟨b, o, e, _⟩
  · exact e
  · cases e

/-! ### A row of ours as a slice -/
theorem cells_osl {b k : Nat} {cs : List Value} {e : TypeId} (hc : Knows L (fun M => CellsOf M R xs cs)) (hk : xs.length = k) (hm : k ≤ 16777216) : Gives (cells b cs e :: L) (osl R e (some ⟨b, 0, none⟩) k xs :: L) := fun M m ⟨h1, h2, hd, l1, l2, hp, hs⟩ => by
  have hcs := hc M h2 hs
  refine ⟨h1, h2, hd, l1, l2, ⟨by simp only [maxEl]; omega, .inr ⟨b, cs.toArray, rfl, hp, by simp [hcs.length, hk], by omega, by omega, fun i x hi => ?_⟩⟩, hs⟩
  obtain ⟨l, a, b⟩ := hcs.at_ i x hi
  exact ⟨l, a, fun j v hj => by simpa using b j v hj⟩
theorem TL_osl {b k : Nat} {cs : List Value} {e : TypeId} (R : Rep α) (xs : List α) (hc : Knows L (fun M => CellsOf M R xs cs)) (hk : xs.length = k) (hm : k ≤ 16777216) (h : TL r n P ops rest ⟨D, E, osl R e (some ⟨b, 0, none⟩) k xs :: L⟩ K) : TL r n P ops rest ⟨D, E, cells b cs e :: L⟩ K := TL_gives (cells_osl hc hk hm) h
theorem cells_ints {k : IntKind} : ∀ {xs : List Int}, (∀ x ∈ xs, intIn k x) → ∀ M, CellsOf M (intR k) xs (xs.map fun x => .int k x)
  | [], _, M => rfl
  | x :: xs, h, M => ⟨[.int k x], _, ⟨rfl, h x (by simp)⟩, cells_ints (fun y hy => h y (by simp [hy])) M, by simp⟩
end
end Go.SL
set_option linter.unusedVariables false
set_option linter.unusedSimpArgs false
namespace Go.SL
open Go
section
variable {r : Option Nat} {n : Nat} {P : Program} {ops : Array Oper} {rest : List Oper} {K : St → Prop} {Q : Exit → St → Prop} {D : List Deferred} {E : Env} {L L' : List HP} {d : Nat} {ty : TypeId} {pos : String} {af : Array Edge}
theorem Y_index_arr {x i : Operand} {t e : TypeId} {b o m len j : Nat} {ik : IntKind} [ht : TyDesc P t (.array len e)] [hz : TySize P e m] (hx : ev E x = some (.pointer (some ⟨b, o, none⟩))) (hi : ev E i = some (.int ik (j : Int))) (hb : j < len) :
    Yl P E L (.indexAddr t x i) ty (.pointer (some ⟨b, o + j * m, none⟩)) := fun n D W a w dst pos af g ha hs => by
  have h1 : (0 : Int) ≤ (j : Int) ∧ (j : Int) < (len : Int) := ⟨by omega, by omega⟩
  simp [execOp, Instr.indexAt, Instr.sureAddr, ha.ev hx, ha.ev hi, asIntOf, ht.run, hz.run, h1, Addr.add_plain]
  exact fun h => absurd h (by omega)
theorem Y_neg {x : Operand} {t : TypeId} {m : Int} (hx : ev E x = some (.int .i64 m)) (hb : -9223372036854775807 ≤ m ∧ m ≤ 9223372036854775807) : Yl P E L (.unOp .neg t x) ty (.int .i64 (-m)) := fun n D W a w dst pos af g ha hs => by
  have e : IntKind.i64.wrap (-m) = -m := IntWalk.i64_in _ (by omega)
  simp [execOp, ha.ev hx, Op.unary, Op.intArith, e]
theorem cellN_of : ∀ {l : List Value} {i : Nat} {v : Value}, l[i]? = some v → cellN l i = some v
  | [], i, v, h => by simp at h
  | x :: l, 0, v, h => by simpa [cellN] using h
  | x :: l, i + 1, v, h => by simpa [cellN] using cellN_of (l := l) (by simpa using h)
theorem setN_one : ∀ {l : List Value} {i : Nat} {v : Value}, i < l.length → setN i l [v] = some (l.set i v)
  | [], i, v, h => by simp at h
  | x :: l, 0, v, h => by simp [setN, overN]
  | x :: l, i + 1, v, h => by simp [setN, setN_one (l := l) (i := i) (v := v) (by simpa using h)]
theorem takeN_app : ∀ (l m : List Value), takeN l.length (l ++ m) = some l
  | [], m => by cases m <;> rfl
  | x :: l, m => by simp [takeN, takeN_app l m]
/-- Arrays of truths. -/
theorem eq_bools {t e : TypeId} [ht : TyDesc P t (.array 7 e)] [hz : TySize P e 1] [hg : TyAgg P e false] (dd : Nat) (w : World) (hn : ∀ x y, (Op.equalIn dd e (.bool x) (.bool y)).run P w = .ok (x == y) w) (a b : List Bool) (ha : a.length = 7) (hb : b.length = 7) :
    (Op.equalIn (dd + 1) t (.agg (a.map Value.bool).toArray) (.agg (b.map Value.bool).toArray)).run P w = .ok (decide (a = b)) w := by
  match a, ha with
  | [a0, a1, a2, a3, a4, a5, a6], _ =>
  match b, hb with
  | [b0, b1, b2, b3, b4, b5, b6], _ =>
  simp [Op.equalIn, ht.run, hz.run, part, hg.run, hn, Std.Legacy.Range.forIn_eq_forIn_range', List.range', Std.Legacy.Range.size]
  by_cases h0 : a0 = b0 <;> simp [h0]
  by_cases h1 : a1 = b1 <;> simp [h1]
  by_cases h2 : a2 = b2 <;> simp [h2]
  by_cases h3 : a3 = b3 <;> simp [h3]
  by_cases h4 : a4 = b4 <;> simp [h4]
  by_cases h5 : a5 = b5 <;> simp [h5]
  by_cases h6 : a6 = b6 <;> simp [h6]
theorem Y_eq_bools {x y : Operand} {t t' e : TypeId} {a b : List Bool} [ht : TyDesc P t (.array 7 e)] [he : TyDesc P e .bool] [hz : TySize P e 1] [hg : TyAgg P e false] (hgd : P.eqGuardType P.depth t = false) (hx : ev E x = some (.agg (a.map Value.bool).toArray)) (hy : ev E y = some (.agg (b.map Value.bool).toArray)) (ha : a.length = 7) (hb : b.length = 7) :
    Yl P E L (.binOp .eql t x y t') ty (.bool (decide (a = b))) := fun n D W ac w dst pos af g hv hs => by
  have h1 := eq_bools (P := P) (t := t) (e := e) 9999 w (fun x y => EqIs.bool 9998 w) a b ha hb
  have h2 : (Op.equal t (.agg (a.map Value.bool).toArray) (.agg (b.map Value.bool).toArray)).run P w = .ok (decide (a = b)) w := h1
  have h3 : ∀ xs ys : Array Value, Go.binOp .eql t (.agg xs) (.agg ys) = (do Pure.pure (Value.bool (← Op.equal t (.agg xs) (.agg ys))) : Sem Value) := fun xs ys => by simp only [Go.binOp]
  simp only [execOp, hv.ev hx, hv.ev hy, eqGuard, h3]
  simp [hgd, h2]
end
end Go.SL
set_option linter.unusedVariables false
set_option linter.unusedSimpArgs false
namespace Go.SL
open Go Go.Proofs

instance intInDec (k : IntKind) (x : Int) : Decidable (intIn k x) := by unfold intIn; exact inferInstance
/-! ### Votes in memory -/
def vc (bs : List Bool) (n : Int) : List Value := bs.map Value.bool ++ [.int .i64 n]
abbrev votes (b : Nat) (bs : List Bool) (n : Int) : HP := cells b (vc bs n) 154
theorem vc_nodes {bs : List Bool} {n : Int} (h : bs.length = 7) : cellN (vc bs n) (0 + 7) = some (.int .i64 n) := cellN_of (by simp [vc, h])
theorem vc_at {bs : List Bool} {n : Int} {j : Nat} {u : Bool} (h : bs[j]? = some u) : cellN (vc bs n) (0 + 0 + j * 1) = some (.bool u) := cellN_of (by
  have hj := (List.getElem?_eq_some_iff.1 h).1
  rw [vc, List.getElem?_append_left (by simpa using hj)]
  simp [h])
theorem vc_set {bs : List Bool} {n : Int} {j : Nat} (hj : j < bs.length) : setN (0 + 0 + j * 1) (vc bs n) [.bool true] = some (vc (bs.set j true) n) := by
  rw [setN_one (by simp [vc]; omega)]
  simp only [Nat.zero_add, Nat.mul_one, vc]
  rw [List.set_append_left _ _ (by simpa using hj), List.map_set]
theorem vc_cut {bs : List Bool} {n : Int} (h : bs.length = 7) : cutN (0 + 0) 7 (vc bs n) = some (bs.map Value.bool) := by
  have := takeN_app (bs.map Value.bool) [.int .i64 n]
  rw [List.length_map, h] at this
  simpa [cutN, vc] using this
/-- There is such a node. -/
def isV (n node : Int) : Prop := 0 ≤ node ∧ node < n
instance (n node : Int) : Decidable (isV n node) := by unfold isV; exact inferInstance
/-- It voted. -/
def hasV (bs : List Bool) (n node : Int) : Prop := isV n node ∧ bs[node.toNat]? = some true
instance (bs : List Bool) (n node : Int) : Decidable (hasV bs n node) := by unfold hasV; exact inferInstance
def addV (bs : List Bool) (n node : Int) : List Bool := if isV n node then bs.set node.toNat true else bs

theorem set_self {α : Type} {l : List α} {i : Nat} {u : α} (h : l[i]? = some u) : l.set i u = l := by
  apply List.ext_getElem?
  intro j
  rw [List.getElem?_set]
  split
  · rename_i e; subst e
    rw [h, if_pos (List.getElem?_eq_some_iff.1 h).1]
  · rfl
theorem quorum_spec (n : Int) (hn : intIn .i64 n) (L : List HP) : Fn Try.prog 59 #[.int .i64 n] L (fun v L' => v = .int .i64 (if n < 1 ∨ n > 7 then 0 else n / 2 + 1) ∧ L' = L) := by
  refine Fn_enter Try.func59 rfl rfl rfl rfl ?_
  refine T_region ?_
  refine TL_y rfl rfl (Y_assign rfl) ?_
  refine TL_nil ?_
  refine T_seq ?_
  refine T_region ?_
  refine TL_y rfl rfl (Y_move rfl) ?_
  refine TL_y rfl rfl (Y_lt rfl rfl) ?_
  refine TL_y rfl rfl (Y_move rfl) ?_
  refine TL_splitd 5 rfl (fun h5 => ?_) (fun h5 => ?_)
  · refine TL_gskip rfl rfl rfl rfl ?_
    refine TL_gskip rfl rfl rfl rfl ?_
    refine TL_y rfl rfl (Y_pick_t rfl rfl) ?_
    refine TL_nil ?_
    refine T_cond_true rfl ?_
    refine T_region ?_
    refine TL_y rfl rfl (Y_assign rfl) ?_
    refine TL_nil ?_
    refine T_ret ?_
    refine thenS_ret ?_
    exact RetG_1 (.inl rfl) rfl (ResV.tmp rfl) GivesTo.g (⟨by rw [if_pos (by omega)], rfl⟩)
  · refine TL_grun rfl rfl ?_
    refine TL_y rfl rfl (Y_move rfl) ?_
    refine TL_grun rfl rfl ?_
    refine TL_y rfl rfl (Y_gt rfl rfl) ?_
    refine TL_y rfl rfl (Y_pick_f rfl rfl) ?_
    refine TL_nil ?_
    refine T_if rfl (fun h8 => ?_) (fun h8 => ?_)
    · refine T_region ?_
      refine TL_y rfl rfl (Y_assign rfl) ?_
      refine TL_nil ?_
      refine T_ret ?_
      refine thenS_ret ?_
      exact RetG_1 (.inl rfl) rfl (ResV.tmp rfl) GivesTo.g (⟨by rw [if_pos (by omega)], rfl⟩)
    · refine T_skip ?_
      refine thenS_normal ?_
      refine T_region ?_
      refine TL_y rfl rfl (Y_move rfl) ?_
      refine TL_y rfl rfl (Y_quo rfl rfl (by omega)) ?_
      refine TL_y rfl rfl (Y_add rfl rfl (by omega)) ?_
      refine TL_y rfl rfl (Y_assign rfl) ?_
      refine TL_nil ?_
      refine T_ret ?_
      exact RetG_1 (.inl rfl) rfl (ResV.tmp rfl) GivesTo.g (⟨by rw [if_neg (by omega)], rfl⟩)

theorem newVotes_spec (n : Int) (L : List HP) : Fn Try.prog 56 #[.int .i64 n] L (fun v L' => (¬ (1 ≤ n ∧ n ≤ 7) ∧ v = .tuple #[.pointer none, .int .i64 1] ∧ L' = L) ∨ ((1 ≤ n ∧ n ≤ 7) ∧ ∃ b, v = .tuple #[.pointer (some ⟨b, 0, none⟩), .int .i64 0] ∧ L' = votes b (List.replicate 7 false) n :: L)) := by
  refine Fn_enter Try.func56 rfl rfl rfl rfl ?_
  refine T_region ?_
  refine TL_y rfl rfl (Y_assign rfl) ?_
  refine TL_y rfl rfl (Y_assign rfl) ?_
  refine TL_nil ?_
  refine T_seq ?_
  refine T_region ?_
  refine TL_y rfl rfl (Y_move rfl) ?_
  refine TL_y rfl rfl (Y_lt rfl rfl) ?_
  refine TL_y rfl rfl (Y_move rfl) ?_
  refine TL_splitd 6 rfl (fun h6 => ?_) (fun h6 => ?_)
  · refine TL_gskip rfl rfl rfl rfl ?_
    refine TL_gskip rfl rfl rfl rfl ?_
    refine TL_y rfl rfl (Y_pick_t rfl rfl) ?_
    refine TL_nil ?_
    refine T_cond_true rfl ?_
    refine T_region ?_
    refine TL_y rfl rfl (Y_assign rfl) ?_
    refine TL_y rfl rfl (Y_assign rfl) ?_
    refine TL_nil ?_
    refine T_ret ?_
    refine thenS_ret ?_
    exact RetG_2 (.inl rfl) rfl (ResV.tmp rfl) (ResV.tmp rfl) GivesTo.g (.inl ⟨by omega, rfl, rfl⟩)
  · refine TL_grun rfl rfl ?_
    refine TL_y rfl rfl (Y_move rfl) ?_
    refine TL_grun rfl rfl ?_
    refine TL_y rfl rfl (Y_gt rfl rfl) ?_
    refine TL_y rfl rfl (Y_pick_f rfl rfl) ?_
    refine TL_nil ?_
    refine T_if rfl (fun h9 => ?_) (fun h9 => ?_)
    · refine T_region ?_
      refine TL_y rfl rfl (Y_assign rfl) ?_
      refine TL_y rfl rfl (Y_assign rfl) ?_
      refine TL_nil ?_
      refine T_ret ?_
      refine thenS_ret ?_
      exact RetG_2 (.inl rfl) rfl (ResV.tmp rfl) (ResV.tmp rfl) GivesTo.g (.inl ⟨by omega, rfl, rfl⟩)
    · refine T_skip ?_
      refine thenS_normal ?_
      refine T_region ?_
      refine TL_y rfl rfl (Y_move rfl) ?_
      refine TL_y rfl rfl (Y_build rfl rfl) ?_
      refine TL_box rfl rfl rfl ?_
      intro b12
      show TL _ _ _ _ _ ⟨_, _, votes b12 (List.replicate 7 false) n :: L⟩ _
      refine TL_y rfl rfl (Y_assign rfl) ?_
      refine TL_y rfl rfl (Y_assign rfl) ?_
      refine TL_nil ?_
      refine T_ret ?_
      exact RetG_2 (.inl rfl) rfl (ResV.tmp rfl) (ResV.tmp rfl) GivesTo.g (.inr ⟨by omega, b12, rfl, rfl⟩)

theorem is_spec {L : List HP} {b : Nat} {bs : List Bool} {n : Int} (hb : bs.length = 7) (node : Int) : Fn Try.prog 94 #[.pointer (some ⟨b, 0, none⟩), .int .i64 node] (votes b bs n :: L) (fun v L' => v = .bool (decide (isV n node)) ∧ L' = votes b bs n :: L) := by
  refine Fn_enter Try.func94 rfl rfl rfl rfl ?_
  refine T_region ?_
  refine TL_y rfl rfl (Y_assign rfl) ?_
  refine TL_nil ?_
  refine T_region ?_
  refine TL_y rfl rfl (Y_move rfl) ?_
  refine TL_y rfl rfl (Y_unequal rfl rfl (EqIs.ptr_nil)) ?_
  refine TL_name 6 (v' := .bool true) rfl (congrArg Value.bool (by simp)) ?_
  refine TL_y rfl rfl (Y_move rfl) ?_
  refine TL_grun rfl rfl ?_
  refine TL_y rfl rfl (Y_move rfl) ?_
  refine TL_grun rfl rfl ?_
  refine TL_y rfl rfl (Y_ge rfl rfl) ?_
  refine TL_y rfl rfl (Y_pick_t rfl rfl) ?_
  refine TL_y rfl rfl (Y_move rfl) ?_
  refine TL_splitd 11 rfl (fun h11 => ?_) (fun h11 => ?_)
  · refine TL_grun rfl rfl ?_
    refine TL_y rfl rfl (Y_move rfl) ?_
    refine TL_grun rfl rfl ?_
    refine TL_y rfl rfl (Y_move rfl) ?_
    refine TL_grun rfl rfl ?_
    refine TL_y rfl rfl (Y_nil_check rfl) ?_
    refine TL_grun rfl rfl ?_
    refine TL_y rfl rfl (Y_field_addr rfl) ?_
    refine TL_grun rfl rfl ?_
    refine TL_y rfl rfl (Y_load rfl (vc_nodes hb)) ?_
    refine TL_grun rfl rfl ?_
    refine TL_y rfl rfl (Y_lt rfl rfl) ?_
    refine TL_y rfl rfl (Y_pick_t rfl rfl) ?_
    refine TL_y rfl rfl (Y_assign rfl) ?_
    refine TL_nil ?_
    refine T_ret ?_
    exact RetG_1 (.inl rfl) rfl (ResV.tmp rfl) GivesTo.g (⟨by rw [decide_eq_decide.2 (show isV n node ↔ node < n from ⟨fun h => h.2, fun h => ⟨h11, h⟩⟩)], rfl⟩)
  · refine TL_gskip rfl rfl rfl rfl ?_
    refine TL_gskip rfl rfl rfl rfl ?_
    refine TL_gskip rfl rfl rfl rfl ?_
    refine TL_gskip rfl rfl rfl rfl ?_
    refine TL_gskip rfl rfl rfl rfl ?_
    refine TL_gskip rfl rfl rfl rfl ?_
    refine TL_y rfl rfl (Y_pick_f rfl rfl) ?_
    refine TL_y rfl rfl (Y_assign rfl) ?_
    refine TL_nil ?_
    refine T_ret ?_
    exact RetG_1 (.inl rfl) rfl (ResV.tmp rfl) GivesTo.g (⟨by rw [decide_eq_false (fun h : isV n node => h11 h.1)], rfl⟩)
theorem has_spec {L : List HP} {b : Nat} {bs : List Bool} {n : Int} (hb : bs.length = 7) (hn : n ≤ 7) (node : Int) : Fn Try.prog 109 #[.pointer (some ⟨b, 0, none⟩), .int .i64 node] (votes b bs n :: L) (fun v L' => v = .bool (decide (hasV bs n node)) ∧ L' = votes b bs n :: L) := by
  refine Fn_enter Try.func109 rfl rfl rfl rfl ?_
  refine T_region ?_
  refine TL_y rfl rfl (Y_assign rfl) ?_
  refine TL_nil ?_
  refine T_region ?_
  refine TL_y rfl rfl (Y_move rfl) ?_
  refine TL_y rfl rfl (Y_move rfl) ?_
  refine TL_call rfl rfl (is_spec hb node) ?_
  rintro _ _ ⟨rfl, rfl⟩
  refine TL_y rfl rfl (Y_move rfl) ?_
  refine TL_splitd 8 rfl (fun h8 => ?_) (fun h8 => ?_)
  · refine TL_grun rfl rfl ?_
    obtain ⟨j, rfl⟩ : ∃ j : Nat, node = (j : Int) := ⟨node.toNat, by have := h8.1; omega⟩
    have hj : j < 7 := by have := h8.2; omega
    obtain ⟨u, hu⟩ : ∃ u, bs[j]? = some u := ⟨_, List.getElem?_eq_getElem (by omega)⟩
    refine TL_y rfl rfl (Y_move rfl) ?_
    refine TL_grun rfl rfl ?_
    refine TL_y rfl rfl (Y_move rfl) ?_
    refine TL_grun rfl rfl ?_
    refine TL_y rfl rfl (Y_nil_check rfl) ?_
    refine TL_grun rfl rfl ?_
    refine TL_y rfl rfl (Y_field_addr rfl) ?_
    refine TL_grun rfl rfl ?_
    refine TL_y rfl rfl (Y_index_arr rfl rfl hj) ?_
    refine TL_grun rfl rfl ?_
    refine TL_y rfl rfl (Y_load rfl (vc_at hu)) ?_
    refine TL_y rfl rfl (Y_pick_t rfl rfl) ?_
    refine TL_y rfl rfl (Y_assign rfl) ?_
    refine TL_nil ?_
    refine T_ret ?_
    exact RetG_1 (.inl rfl) rfl (ResV.tmp rfl) GivesTo.g (⟨by cases u <;> simp [hasV, h8, hu], rfl⟩)
  · refine TL_gskip rfl rfl rfl rfl ?_
    refine TL_gskip rfl rfl rfl rfl ?_
    refine TL_gskip rfl rfl rfl rfl ?_
    refine TL_gskip rfl rfl rfl rfl ?_
    refine TL_gskip rfl rfl rfl rfl ?_
    refine TL_gskip rfl rfl rfl rfl ?_
    refine TL_y rfl rfl (Y_pick_f rfl rfl) ?_
    refine TL_y rfl rfl (Y_assign rfl) ?_
    refine TL_nil ?_
    refine T_ret ?_
    exact RetG_1 (.inl rfl) rfl (ResV.tmp rfl) GivesTo.g (⟨by rw [decide_eq_false (fun h : hasV bs n node => h8 h.1)], rfl⟩)
theorem add_spec {L : List HP} {b : Nat} {bs : List Bool} {n : Int} (hb : bs.length = 7) (hn : n ≤ 7) (node : Int) : Fn Try.prog 57 #[.pointer (some ⟨b, 0, none⟩), .int .i64 node] (votes b bs n :: L) (fun v L' => v = .bool (decide (isV n node ∧ ¬ hasV bs n node)) ∧ L' = votes b (addV bs n node) n :: L) := by
  refine Fn_enter Try.func57 rfl rfl rfl rfl ?_
  refine T_region ?_
  refine TL_y rfl rfl (Y_assign rfl) ?_
  refine TL_nil ?_
  refine T_seq ?_
  refine T_region ?_
  refine TL_y rfl rfl (Y_move rfl) ?_
  refine TL_y rfl rfl (Y_move rfl) ?_
  refine TL_call rfl rfl (is_spec hb node) ?_
  rintro _ _ ⟨rfl, rfl⟩
  refine TL_y rfl rfl (Y_not_d rfl) ?_
  refine TL_y rfl rfl (Y_move rfl) ?_
  refine TL_splitd 9 rfl (fun h9 => ?_) (fun h9 => ?_)
  · refine TL_gskip rfl rfl rfl rfl ?_
    refine TL_gskip rfl rfl rfl rfl ?_
    refine TL_gskip rfl rfl rfl rfl ?_
    refine TL_gskip rfl rfl rfl rfl ?_
    refine TL_gskip rfl rfl rfl rfl ?_
    refine TL_gskip rfl rfl rfl rfl ?_
    refine TL_y rfl rfl (Y_pick_t rfl rfl) ?_
    refine TL_nil ?_
    refine T_cond_true rfl ?_
    refine T_region ?_
    refine TL_y rfl rfl (Y_assign rfl) ?_
    refine TL_nil ?_
    refine T_ret ?_
    refine thenS_ret ?_
    exact RetG_1 (.inl rfl) rfl (ResV.tmp rfl) GivesTo.g (⟨by rw [decide_eq_false (fun h => h9 h.1)], by rw [addV, if_neg h9]⟩)
  · refine TL_grun rfl rfl ?_
    have h9' := Classical.not_not.1 h9
    obtain ⟨j, rfl⟩ : ∃ j : Nat, node = (j : Int) := ⟨node.toNat, by have := h9'.1; omega⟩
    have hj : j < 7 := by have := h9'.2; omega
    obtain ⟨u, hu⟩ : ∃ u, bs[j]? = some u := ⟨_, List.getElem?_eq_getElem (by omega)⟩
    refine TL_y rfl rfl (Y_move rfl) ?_
    refine TL_grun rfl rfl ?_
    refine TL_y rfl rfl (Y_move rfl) ?_
    refine TL_grun rfl rfl ?_
    refine TL_y rfl rfl (Y_nil_check rfl) ?_
    refine TL_grun rfl rfl ?_
    refine TL_y rfl rfl (Y_field_addr rfl) ?_
    refine TL_grun rfl rfl ?_
    refine TL_y rfl rfl (Y_index_arr rfl rfl hj) ?_
    refine TL_grun rfl rfl ?_
    refine TL_y rfl rfl (Y_load rfl (vc_at hu)) ?_
    refine TL_y rfl rfl (Y_pick_f rfl rfl) ?_
    refine TL_nil ?_
    refine T_cond rfl (fun h16 => ?_) (fun h16 => ?_)
    · subst h16
      refine T_region ?_
      refine TL_y rfl rfl (Y_assign rfl) ?_
      refine TL_nil ?_
      refine T_ret ?_
      refine thenS_ret ?_
      exact RetG_1 (.inl rfl) rfl (ResV.tmp rfl) GivesTo.g (⟨by rw [decide_eq_false (fun h => h.2 ⟨h9', by simpa using hu⟩)], by rw [addV, if_pos h9', Int.toNat_natCast, set_self hu]⟩)
    · subst h16
      refine T_skip ?_
      refine thenS_normal ?_
      refine T_region ?_
      refine TL_y rfl rfl (Y_move rfl) ?_
      refine TL_y rfl rfl (Y_move rfl) ?_
      refine TL_y rfl rfl (Y_nil_check rfl) ?_
      refine TL_y rfl rfl (Y_field_addr rfl) ?_
      refine TL_y rfl rfl (Y_index_arr rfl rfl hj) ?_
      refine TL_store rfl rfl rfl rfl rfl (vc_set (by omega)) ?_
      refine TL_nil ?_
      refine T_region ?_
      refine TL_y rfl rfl (Y_assign rfl) ?_
      refine TL_nil ?_
      refine T_ret ?_
      exact RetG_1 (.inl rfl) rfl (ResV.tmp rfl) GivesTo.g (⟨by rw [decide_eq_true ⟨h9', fun h => by have := h.2; simp [hu] at this⟩], by rw [addV, if_pos h9', Int.toNat_natCast]⟩)
end Go.SL
set_option linter.unusedVariables false
set_option linter.unusedSimpArgs false
namespace Go.SL
open Go Go.Proofs

def allTo (bs : List Bool) (n : Int) (k : Nat) : List Int := ((List.range k).filter fun i : Nat => decide (hasV bs n (i : Int))).map fun i : Nat => (i : Int)
theorem allTo_succ (bs : List Bool) (n : Int) (k : Nat) : allTo bs n (k + 1) = allTo bs n k ++ (if hasV bs n (k : Int) then [(k : Int)] else []) := by
  simp only [allTo, List.range_succ, List.filter_append, List.map_append]
  congr 1
  by_cases h : hasV bs n (k : Int) <;> simp [h]
theorem allTo_len (bs : List Bool) (n : Int) (k : Nat) : (allTo bs n k).length ≤ k := by
  have := List.length_filter_le (fun i : Nat => decide (hasV bs n (i : Int))) (List.range k)
  simpa [allTo] using this
/-- The nodes that voted. -/
def allV (bs : List Bool) (n : Int) : List Int := allTo bs n 7
theorem allV_none (n : Int) : allV (List.replicate 7 false) n = [] := by
  simp only [allV, allTo, List.map_eq_nil_iff, List.filter_eq_nil_iff]
  intro i hi h
  have := (of_decide_eq_true h).2
  rw [List.getElem?_replicate] at this
  split at this <;> simp at this

theorem all_spec {L : List HP} {b : Nat} {bs : List Bool} {n : Int} (hb : bs.length = 7) (hn : n ≤ 7) : Fn Try.prog 126 #[.pointer (some ⟨b, 0, none⟩)] (votes b bs n :: L) (fun v L' => ∃ A c, v = .slice A (allV bs n).length c ∧ L' = osl (intR .i64) 3 A c (allV bs n) :: votes b bs n :: L) := by
  refine Fn_enter Try.func126 rfl rfl rfl rfl ?_
  refine T_region ?_
  refine TL_y rfl rfl (Y_assign rfl) ?_
  refine TL_nil ?_
  refine T_region ?_
  refine TL_y rfl rfl (Y_assign rfl) ?_
  refine TL_nil ?_
  refine T_seq ?_
  refine T_region ?_
  refine TL_y rfl rfl (Y_move rfl) ?_
  refine TL_nil ?_
  refine T_block ?_
  refine T_loopK (σ := Nat × Option Addr × Nat) [0] (fun p => p.1 ≤ 7) (fun p kv => (5, .int .i64 (p.1 : Int)) :: (3, .slice p.2.1 (allTo bs n p.1).length p.2.2) :: kv) (fun p => osl (intR .i64) 3 p.2.1 p.2.2 (allTo bs n p.1) :: votes b bs n :: L) (fun p => 7 - p.1) ((0, none, 0)) rfl (Nat.zero_le _) (osl_nil _ _ _ _) (sub_cons rfl (sub_cons rfl (sub_cons rfl (sub_nil)))) ?_
  rintro ⟨i, A, c⟩ hi
  dsimp only at hi ⊢
  have hal := allTo_len bs n i
  have hsu := allTo_succ bs n i
  refine T_region ?_
  refine TL_y rfl rfl (Y_lt rfl rfl) ?_
  refine TL_nil ?_
  refine T_seq ?_
  refine T_if rfl (fun h6 => ?_) (fun h6 => ?_)
  · refine T_skip ?_
    refine thenS_normal ?_
    refine T_seq ?_
    refine T_block ?_
    refine T_region ?_
    refine TL_y rfl rfl (Y_move rfl) ?_
    refine TL_y rfl rfl (Y_assign rfl) ?_
    refine TL_nil ?_
    refine T_region ?_
    refine TL_y rfl rfl (Y_move rfl) ?_
    refine TL_y rfl rfl (Y_move rfl) ?_
    refine TL_pullc b ?_
    refine TL_call rfl rfl (has_spec hb hn (i : Int)) ?_
    rintro _ _ ⟨rfl, rfl⟩
    refine TL_nil ?_
    refine T_if rfl (fun h10 => ?_) (fun h10 => ?_)
    · refine T_region_last ?_
      refine TL_y rfl rfl (Y_move rfl) ?_
      refine TL_y rfl rfl (Y_move rfl) ?_
      refine TL_build_slice rfl rfl rfl rfl rfl rfl ?_
      intro b13
      refine TL_osl (k := 1) (intR .i64) [(i : Int)] (Knows.const fun M => cells_ints (k := .i64) (xs := [(i : Int)]) (by simpa using i64In_mk (by omega)) M) rfl (by simp) ?_
      refine TL_freeze_osl ?_
      refine TL_name 13 (v' := .slice (some ⟨b13, 0, none⟩) [(i : Int)].length 1) rfl rfl ?_
      refine TL_append rfl rfl rfl rfl rfl slk (by (try simp only [List.length_append, List.length_cons, List.length_nil]); omega) ?_
      intro A14 c14
      rw [show allTo bs n i ++ [(i : Int)] = allTo bs n (i + 1) by rw [hsu, if_pos h10]]
      refine TL_y rfl rfl (Y_assign rfl) ?_
      refine TL_nil ?_
      refine inB_normal ?_
      refine thenS_normal ?_
      refine T_region_last ?_
      refine TL_y rfl rfl (Y_add rfl rfl (by omega)) ?_
      refine TL_name 15 (v' := .int .i64 ((i + 1 : Nat) : Int)) rfl (rfl) ?_
      refine TL_y rfl rfl (Y_move rfl) ?_
      refine TL_nil ?_
      refine thenS_normal ?_
      exact ⟨(i + 1, A14, c14), (by simp only; omega), by simp only; omega, holds_to (sub_cons rfl (sub_cons rfl (sub_cons rfl (sub_nil)))) GivesTo.g⟩
    · refine T_skip ?_
      refine inB_normal ?_
      refine thenS_normal ?_
      refine T_region_last ?_
      refine TL_y rfl rfl (Y_add rfl rfl (by omega)) ?_
      refine TL_name 15 (v' := .int .i64 ((i + 1 : Nat) : Int)) rfl (rfl) ?_
      refine TL_y rfl rfl (Y_move rfl) ?_
      refine TL_nil ?_
      refine thenS_normal ?_
      rw [show allTo bs n i = allTo bs n (i + 1) by rw [hsu, if_neg h10]; simp]
      exact ⟨(i + 1, A, c), (by simp only; omega), by simp only; omega, holds_to (sub_cons rfl (sub_cons rfl (sub_cons rfl (sub_nil)))) GivesTo.g⟩
  · refine T_exit ?_
    refine thenS_exit ?_
    refine thenS_exit ?_
    refine inB_hit ?_
    refine thenS_normal ?_
    refine T_region ?_
    refine TL_y rfl rfl (Y_move rfl) ?_
    refine TL_y rfl rfl (Y_assign rfl) ?_
    refine TL_nil ?_
    refine T_ret ?_
    obtain rfl : i = 7 := by omega
    rw [show allTo bs n 7 = allV bs n from rfl]
    exact RetG_1 (.inl rfl) rfl (ResV.tmp rfl) GivesTo.g (⟨A, c, rfl, rfl⟩)
theorem count_spec {L : List HP} {b : Nat} {bs : List Bool} {n : Int} (hb : bs.length = 7) (hn : n ≤ 7) : Fn Try.prog 95 #[.pointer (some ⟨b, 0, none⟩)] (votes b bs n :: L) (fun v L' => v = .int .i64 ((allV bs n).length : Int) ∧ L' = votes b bs n :: L) := by
  refine Fn_enter Try.func95 rfl rfl rfl rfl ?_
  refine T_region ?_
  refine TL_y rfl rfl (Y_assign rfl) ?_
  refine TL_nil ?_
  refine T_seq ?_
  refine T_region ?_
  refine TL_y rfl rfl (Y_move rfl) ?_
  refine TL_y rfl rfl (Y_equal rfl rfl (EqIs.ptr_nil)) ?_
  refine TL_name 4 (v' := .bool false) rfl (congrArg Value.bool (by simp)) ?_
  refine TL_y rfl rfl (Y_move rfl) ?_
  refine TL_grun rfl rfl ?_
  refine TL_y rfl rfl (Y_move rfl) ?_
  refine TL_grun rfl rfl ?_
  refine TL_y rfl rfl (Y_nil_check rfl) ?_
  refine TL_grun rfl rfl ?_
  refine TL_y rfl rfl (Y_field_addr rfl) ?_
  refine TL_grun rfl rfl ?_
  refine TL_y rfl rfl (Y_load_agg rfl (vc_cut hb)) ?_
  refine TL_grun rfl rfl ?_
  refine TL_y rfl rfl (Y_build_arr rfl rfl) ?_
  refine TL_name 10 (v' := .agg ((List.replicate 7 false).map Value.bool).toArray) rfl (rfl) ?_
  refine TL_grun rfl rfl ?_
  refine TL_y rfl rfl (Y_eq_bools (by kernel_rfl) rfl rfl hb rfl) ?_
  refine TL_y rfl rfl (Y_pick_f rfl rfl) ?_
  refine TL_nil ?_
  refine T_if rfl (fun h12 => ?_) (fun h12 => ?_)
  · refine T_region ?_
    refine TL_y rfl rfl (Y_assign rfl) ?_
    refine TL_nil ?_
    refine T_ret ?_
    refine thenS_ret ?_
    exact RetG_1 (.inl rfl) rfl (ResV.tmp rfl) GivesTo.g (⟨by rw [h12, allV_none]; rfl, rfl⟩)
  · refine T_skip ?_
    refine thenS_normal ?_
    refine T_region ?_
    refine TL_y rfl rfl (Y_move rfl) ?_
    refine TL_call rfl rfl (all_spec hb hn) ?_
    rintro _ _ ⟨A14, c14, rfl, rfl⟩
    refine TL_y rfl rfl (Y_len rfl) ?_
    refine TL_y rfl rfl (Y_assign rfl) ?_
    refine TL_nil ?_
    refine T_ret ?_
    exact RetG_1 (.inl rfl) rfl (ResV.tmp rfl) GivesTo.g (⟨rfl, rfl⟩)
theorem enough_spec {L : List HP} {b : Nat} {bs : List Bool} {n : Int} (hb : bs.length = 7) (hn : 1 ≤ n ∧ n ≤ 7) : Fn Try.prog 58 #[.pointer (some ⟨b, 0, none⟩)] (votes b bs n :: L) (fun v L' => v = .bool (decide (n / 2 + 1 ≤ ((allV bs n).length : Int))) ∧ L' = votes b bs n :: L) := by
  refine Fn_enter Try.func58 rfl rfl rfl rfl ?_
  refine T_region ?_
  refine TL_y rfl rfl (Y_assign rfl) ?_
  refine TL_nil ?_
  refine T_region_draw _ [0, 1, 3, 7, 15, 31, 63, 127, 255, 511, 1023, 2047, 1023, 5119, 13311, 29695, 65535, 131071, 262143, 524287] [] [(0, true), (1, true), (2, true), (3, true), (4, true), (5, true), (6, true), (7, true), (8, true), (9, true), (10, true), (12, true), (13, true), (14, true), (15, true), (11, false), (16, false), (17, true), (18, true), (19, true)] (by kernel_rfl) (by decide +kernel) (Gives.refl _) ?_
  refine TF_y rfl rfl (Y_move rfl) ?_
  refine TF_y rfl rfl (Y_unequal rfl rfl (EqIs.ptr_nil)) ?_
  refine TF_name 4 (v' := .bool true) rfl (congrArg Value.bool (by simp)) ?_
  refine TF_y rfl rfl (Y_move rfl) ?_
  refine TF_gy rfl rfl rfl rfl (Y_move rfl) ?_
  refine TF_gy rfl rfl rfl rfl (Y_nil_check rfl) ?_
  refine TF_gy rfl rfl rfl rfl (Y_field_addr rfl) ?_
  refine TF_gy rfl rfl rfl rfl (Y_load rfl (vc_nodes hb)) ?_
  refine TF_gy rfl rfl rfl rfl (Y_gt rfl rfl) ?_
  refine TF_name 10 (v' := .bool true) rfl (congrArg Value.bool (decide_eq_true (by omega))) ?_
  refine TF_y rfl rfl (Y_pick_t rfl rfl) ?_
  refine TF_y rfl rfl (Y_move rfl) ?_
  refine TF_gy rfl rfl rfl rfl (Y_move rfl) ?_
  refine TF_gy rfl rfl rfl rfl (Y_move rfl) ?_
  refine TF_gy rfl rfl rfl rfl (Y_nil_check rfl) ?_
  refine TF_gy rfl rfl rfl rfl (Y_field_addr rfl) ?_
  refine TF_gy rfl rfl rfl rfl (Y_load rfl (vc_nodes hb)) ?_
  refine TF_anchor rfl ?_
  refine TL_grun rfl rfl ?_
  refine TL_call rfl rfl (count_spec hb hn.2) ?_
  rintro _ _ ⟨rfl, rfl⟩
  refine TF_end GivesTo.g ?_
  refine TF_anchor rfl ?_
  refine TL_grun rfl rfl ?_
  refine TL_call rfl rfl (quorum_spec n (i64In_mk (by omega)) _) ?_
  rintro _ _ ⟨rfl, rfl⟩
  refine TL_name 19 (v' := .int .i64 (n / 2 + 1)) rfl (by rw [if_neg (by omega)]) ?_
  refine TF_end GivesTo.g ?_
  refine TF_gy rfl rfl rfl rfl (Y_ge rfl rfl) ?_
  refine TF_y rfl rfl (Y_pick_t rfl rfl) ?_
  refine TF_y rfl rfl (Y_assign rfl) ?_
  refine TF_nil ?_
  refine T_ret ?_
  exact RetG_1 (.inl rfl) rfl (ResV.tmp rfl) GivesTo.g (⟨rfl, rfl⟩)
end Go.SL
set_option linter.unusedVariables false
set_option linter.unusedSimpArgs false
namespace Go.SL
open Go Go.Proofs

def cmpI (x y : Int) : Int := if x < y then -1 else if y < x then 1 else 0
def orI : List Int → Int
  | [] => 0
  | x :: l => if x ≠ 0 then x else orI l
theorem isNaN_spec (x : Int) (L : List HP) : Fn Try.prog 99 #[.int .i64 x] L (fun v L' => v = .bool false ∧ L' = L) := by
  refine Fn_enter Try.func99 rfl rfl rfl rfl ?_
  refine T_region ?_
  refine TL_y rfl rfl (Y_assign rfl) ?_
  refine TL_nil ?_
  refine T_region ?_
  refine TL_y rfl rfl (Y_move rfl) ?_
  refine TL_y rfl rfl (Y_move rfl) ?_
  refine TL_y rfl rfl (Y_ne rfl rfl) ?_
  refine TL_y rfl rfl (Y_assign rfl) ?_
  refine TL_nil ?_
  refine T_ret ?_
  exact RetG_1 (.inl rfl) rfl (ResV.tmp rfl) GivesTo.g (⟨by simp, rfl⟩)
theorem cmpInt_spec (x y : Int) (L : List HP) : Fn Try.prog 66 #[.int .i64 x, .int .i64 y] L (fun v L' => v = .int .i64 (cmpI x y) ∧ L' = L) := by
  refine Fn_enter Try.func66 rfl rfl rfl rfl ?_
  refine T_region ?_
  refine TL_y rfl rfl (Y_assign rfl) ?_
  refine TL_nil ?_
  refine T_region ?_
  refine TL_y rfl rfl (Y_move rfl) ?_
  refine TL_call rfl rfl (isNaN_spec _ _) ?_
  rintro _ _ ⟨rfl, rfl⟩
  refine TL_name 8 (v' := .bool false) rfl (rfl) ?_
  refine TL_y rfl rfl (Y_assign rfl) ?_
  refine TL_nil ?_
  refine T_region ?_
  refine TL_y rfl rfl (Y_move rfl) ?_
  refine TL_call rfl rfl (isNaN_spec _ _) ?_
  rintro _ _ ⟨rfl, rfl⟩
  refine TL_name 10 (v' := .bool false) rfl (rfl) ?_
  refine TL_y rfl rfl (Y_assign rfl) ?_
  refine TL_nil ?_
  refine T_seq ?_
  refine T_region ?_
  refine TL_y rfl rfl (Y_move rfl) ?_
  refine TL_nil ?_
  refine T_cond_false rfl ?_
  refine T_skip ?_
  refine thenS_normal ?_
  refine T_seq ?_
  refine T_region ?_
  refine TL_y rfl rfl (Y_move rfl) ?_
  refine TL_nil ?_
  refine T_cond_false rfl ?_
  refine T_skip ?_
  refine thenS_normal ?_
  refine T_seq ?_
  refine T_region ?_
  refine TL_y rfl rfl (Y_move rfl) ?_
  refine TL_y rfl rfl (Y_move rfl) ?_
  refine TL_y rfl rfl (Y_lt rfl rfl) ?_
  refine TL_nil ?_
  refine T_if rfl (fun h16 => ?_) (fun h16 => ?_)
  · refine T_region ?_
    refine TL_y rfl rfl (Y_assign rfl) ?_
    refine TL_nil ?_
    refine T_ret ?_
    refine thenS_ret ?_
    exact RetG_1 (.inl rfl) rfl (ResV.tmp rfl) GivesTo.g (⟨by rw [cmpI, if_pos h16], rfl⟩)
  · refine T_skip ?_
    refine thenS_normal ?_
    refine T_seq ?_
    refine T_region ?_
    refine TL_y rfl rfl (Y_move rfl) ?_
    refine TL_y rfl rfl (Y_move rfl) ?_
    refine TL_y rfl rfl (Y_gt rfl rfl) ?_
    refine TL_nil ?_
    refine T_if rfl (fun h19 => ?_) (fun h19 => ?_)
    · refine T_region ?_
      refine TL_y rfl rfl (Y_assign rfl) ?_
      refine TL_nil ?_
      refine T_ret ?_
      refine thenS_ret ?_
      exact RetG_1 (.inl rfl) rfl (ResV.tmp rfl) GivesTo.g (⟨by rw [cmpI, if_neg h16, if_pos h19], rfl⟩)
    · refine T_skip ?_
      refine thenS_normal ?_
      refine T_region ?_
      refine TL_y rfl rfl (Y_assign rfl) ?_
      refine TL_nil ?_
      refine T_ret ?_
      exact RetG_1 (.inl rfl) rfl (ResV.tmp rfl) GivesTo.g (⟨by rw [cmpI, if_neg h16, if_neg h19], rfl⟩)
theorem or_spec {L : List HP} {A : Option Addr} {c : Nat} {l : List Int} (hk : SlK L (intR .i64) A c l) : Fn Try.prog 65 #[.slice A l.length c] L (fun v L' => v = .int .i64 (orI l) ∧ L' = L) := by
  refine Fn_enter Try.func65 rfl rfl rfl rfl ?_
  refine hk.lens fun hl => ?_
  simp only [maxEl] at hl
  refine T_region ?_
  refine TL_y rfl rfl (Y_assign rfl) ?_
  refine TL_nil ?_
  refine T_region ?_
  refine TL_y rfl rfl (Y_assign rfl) ?_
  refine TL_nil ?_
  refine T_seq ?_
  refine T_region ?_
  refine TL_y rfl rfl (Y_move rfl) ?_
  refine TL_y rfl rfl (Y_len rfl) ?_
  refine TL_y rfl rfl (Y_move rfl) ?_
  refine TL_nil ?_
  refine T_block ?_
  refine T_loopK (σ := Nat) [3, 6, 7] (fun i => i ≤ l.length ∧ orI l = orI (l.drop i)) (fun i kv => (8, .int .i64 (i : Int)) :: kv) (fun i => L) (fun i => l.length - i) (0) rfl (⟨Nat.zero_le _, rfl⟩) (GivesTo.g) (sub_cons rfl (sub_cons rfl (sub_cons rfl (sub_cons rfl (sub_nil))))) ?_
  intro i hi
  refine T_region ?_
  refine TL_y rfl rfl (Y_lt rfl rfl) ?_
  refine TL_nil ?_
  refine T_seq ?_
  refine T_if rfl (fun h9 => ?_) (fun h9 => ?_)
  · refine T_skip ?_
    refine thenS_normal ?_
    refine T_seq ?_
    refine T_block ?_
    refine T_region ?_
    obtain ⟨u, hu⟩ : ∃ u, l[i]? = some u := ⟨_, List.getElem?_eq_getElem (by omega)⟩
    have hor : orI l = if u ≠ 0 then u else orI (l.drop (i + 1)) := by rw [hi.2, List.drop_eq_getElem_cons (List.getElem?_eq_some_iff.1 hu).1, (List.getElem?_eq_some_iff.1 hu).2]; rfl
    refine TL_index_int rfl rfl rfl hk hu ?_
    intro hi10 bi10 oi10
    refine TL_y rfl rfl (Y_load_row rfl rfl) ?_
    refine TL_y rfl rfl (Y_assign rfl) ?_
    refine TL_nil ?_
    refine T_region ?_
    refine TL_y rfl rfl (Y_move rfl) ?_
    refine TL_y rfl rfl (Y_move rfl) ?_
    refine TL_y rfl rfl (Y_ne rfl rfl) ?_
    refine TL_nil ?_
    refine T_if rfl (fun h14 => ?_) (fun h14 => ?_)
    · refine T_region ?_
      refine TL_y rfl rfl (Y_move rfl) ?_
      refine TL_y rfl rfl (Y_assign rfl) ?_
      refine TL_nil ?_
      refine T_ret ?_
      refine inB_ret ?_
      refine thenS_ret ?_
      refine thenS_ret ?_
      refine inB_ret ?_
      refine thenS_ret ?_
      exact RetG_1 (.inl rfl) rfl (ResV.tmp rfl) GivesTo.g (⟨by rw [hor, if_pos h14], rfl⟩)
    · refine T_skip ?_
      refine inB_normal ?_
      refine thenS_normal ?_
      refine T_region_last ?_
      refine TL_y rfl rfl (Y_add rfl rfl (by omega)) ?_
      refine TL_name 16 (v' := .int .i64 ((i + 1 : Nat) : Int)) rfl (rfl) ?_
      refine TL_y rfl rfl (Y_move rfl) ?_
      refine TL_nil ?_
      refine thenS_normal ?_
      exact ⟨i + 1, ⟨by omega, by rw [hor, if_neg h14]⟩, by omega, holds_to (sub_cons rfl (sub_cons rfl (sub_cons rfl (sub_cons rfl (sub_nil))))) GivesTo.g⟩
  · refine T_exit ?_
    refine thenS_exit ?_
    refine thenS_exit ?_
    refine inB_hit ?_
    refine thenS_normal ?_
    refine T_region ?_
    refine TL_y rfl rfl (Y_move rfl) ?_
    refine TL_y rfl rfl (Y_assign rfl) ?_
    refine TL_nil ?_
    refine T_ret ?_
    exact RetG_1 (.inl rfl) rfl (ResV.tmp rfl) GivesTo.g (⟨by rw [hi.2, List.drop_of_length_le (by omega)]; rfl, rfl⟩)

/-- Which ballot is greater. -/
def cmpB (a b : Int × Int) : Int := if a.1 < b.1 then -1 else if b.1 < a.1 then 1 else cmpI a.2 b.2
theorem cmpB_or (a b : Int × Int) : orI [cmpI a.1 b.1, cmpI a.2 b.2] = cmpB a b := by
  unfold cmpB orI
  by_cases h1 : a.1 < b.1
  · have e : cmpI a.1 b.1 = -1 := by rw [cmpI, if_pos h1]
    rw [e, if_pos (by decide), if_pos h1]
  · by_cases h2 : b.1 < a.1
    · have e : cmpI a.1 b.1 = 1 := by rw [cmpI, if_neg h1, if_pos h2]
      rw [e, if_pos (by decide), if_neg h1, if_pos h2]
    · have e : cmpI a.1 b.1 = 0 := by rw [cmpI, if_neg h1, if_neg h2]
      rw [e, if_neg (by decide), if_neg h1, if_neg h2]
      unfold orI orI
      by_cases h3 : cmpI a.2 b.2 = 0
      · rw [if_neg (by simpa using h3), h3]
      · rw [if_pos h3]
theorem cmpI_in (x y : Int) : -1 ≤ cmpI x y ∧ cmpI x y ≤ 1 := by
  unfold cmpI; split <;> (try split) <;> decide
/-- A ballot as a value. -/
abbrev balV (a : Int × Int) : Value := .agg #[.int .i64 a.1, .int .i64 a.2]
theorem compare_spec (a b : Int × Int) (L : List HP) : Fn Try.prog 24 #[balV a, balV b] L (fun v L' => v = .int .i64 (cmpB a b) ∧ L' = L) := by
  have h1 := cmpI_in a.1 b.1
  have h2 := cmpI_in a.2 b.2
  refine Fn_enter Try.func24 rfl rfl rfl rfl ?_
  refine T_region ?_
  refine TL_box rfl rfl rfl ?_
  intro b2
  refine TL_box rfl rfl rfl ?_
  intro b3
  refine TL_y rfl rfl (Y_assign rfl) ?_
  refine TL_nil ?_
  refine T_region_draw _ [0, 1, 0, 4, 15, 0, 32, 0, 128, 511, 1023, 2047, 4095] [] [(0, true), (1, true), (2, true), (3, true), (5, true), (6, true), (7, true), (8, true), (4, false), (9, false), (10, false), (11, false), (12, true)] (by kernel_rfl) (by decide +kernel) (Gives.refl _) ?_
  refine TF_y rfl rfl (Y_field_addr rfl) ?_
  refine TF_y rfl rfl (Y_load rfl rfl) ?_
  refine TF_y rfl rfl (Y_field_addr rfl) ?_
  refine TF_y rfl rfl (Y_load rfl rfl) ?_
  refine TF_y rfl rfl (Y_field_addr rfl) ?_
  refine TF_y rfl rfl (Y_load rfl rfl) ?_
  refine TF_y rfl rfl (Y_field_addr rfl) ?_
  refine TF_y rfl rfl (Y_load rfl rfl) ?_
  refine TF_anchor rfl ?_
  refine TL_call rfl rfl (cmpInt_spec _ _ _) ?_
  rintro _ _ ⟨rfl, rfl⟩
  refine TF_end GivesTo.g ?_
  refine TF_anchor rfl ?_
  refine TL_call rfl rfl (cmpInt_spec _ _ _) ?_
  rintro _ _ ⟨rfl, rfl⟩
  refine TF_end GivesTo.g ?_
  refine TF_anchor rfl ?_
  refine TL_build_slice rfl rfl rfl rfl rfl rfl ?_
  intro b15
  refine TL_osl (k := 2) (intR .i64) [cmpI a.1 b.1, cmpI a.2 b.2] (Knows.const fun M => cells_ints (k := .i64) (xs := [cmpI a.1 b.1, cmpI a.2 b.2]) (by intro x hx; simp at hx; rcases hx with rfl | rfl <;> exact i64In_mk (by omega)) M) rfl (by simp) ?_
  refine TL_freeze_osl ?_
  refine TL_name 15 (v' := .slice (some ⟨b15, 0, none⟩) [cmpI a.1 b.1, cmpI a.2 b.2].length 2) rfl rfl ?_
  refine TF_end GivesTo.g ?_
  refine TF_anchor rfl ?_
  refine TL_call rfl rfl (or_spec slk) ?_
  rintro _ _ ⟨rfl, rfl⟩
  refine TF_end GivesTo.g ?_
  refine TF_y rfl rfl (Y_assign rfl) ?_
  refine TF_nil ?_
  refine T_ret ?_
  exact RetG_1 (.inl rfl) rfl (ResV.tmp rfl) GivesTo.g (⟨by rw [cmpB_or], rfl⟩)
end Go.SL
set_option linter.unusedVariables false
set_option linter.unusedSimpArgs false
namespace Go.SL
open Go
theorem sep_app {M : Mem} {B : List HP} : ∀ {A : List HP} {h : Mem}, Sep A M Mem.emp → Sep B M h → Sep (A ++ B) M h
  | [], h, _, hb => hb
  | p :: A, h, ⟨h1, h2, _, l1, l2, hp, hs⟩, hb => ⟨Mem.emp, h, Mem.emp_disj _, Mem.emp_le _, Mem.le_refl _, p.mono (Mem.le_refl _) l1 hp, sep_app (Sep.mono (Mem.le_refl _) l2 hs) hb⟩
/-- Data whose cells tell where the rest lies: f, with the assertions g. -/
def exR {α β : Type} (sz : Nat) (f : α → β → List Value) (g : α → β → List HP) (ok : α → Prop) (hlen : ∀ x p, (f x p).length = sz) (hone : ∀ x p, oneN (f x p) = true) : Rep α :=
  ⟨sz, fun M x cs => ∃ p, cs = f x p ∧ Sep (g x p) M Mem.emp ∧ ok x, fun hM ⟨p, e, hs, h⟩ => ⟨p, e, Sep.mono hM (Mem.le_refl _) hs, h⟩, fun ⟨p, e, _, _⟩ => by rw [e]; exact hlen _ _, fun ⟨p, e, _, _⟩ v hv => by rw [e] at hv; exact oneN_mem (hone _ _) v hv⟩
section
variable {r : Option Nat} {n : Nat} {P : Program} {ops : Array Oper} {rest : List Oper} {K : St → Prop} {Q : Exit → St → Prop} {D : List Deferred} {E : Env} {L L' : List HP}
variable {α β : Type} {sz : Nat} {f : α → β → List Value} {g : α → β → List HP} {ok : α → Prop} {hlen : ∀ x p, (f x p).length = sz} {hone : ∀ x p, oneN (f x p) = true}
theorem ex_gives {u : α} {l : List Value} {b o : Nat} {W w : World} (h : Sat W w (row b o l :: is (exR sz f g ok hlen hone) u l :: L)) : ∃ p, l = f u p ∧ ok u ∧ Sat W w (row b o (f u p) :: (g u p ++ L)) := by
  obtain ⟨M, k, hd, hM, hk, h1, h2, hd1, l1, l2, hr, h3, h4, hd2, l3, l4, ⟨p, e, hs, hok⟩, hL⟩ := h.ex
  subst e
  exact ⟨p, rfl, hok, ⟨M, k, hd, hM, hk, h1, h2, hd1, l1, l2, hr, sep_app hs (Sep.mono (Mem.le_refl _) l4 hL)⟩, h.os, h.tape, h.output, h.size⟩
theorem TL_ex {u : α} {l : List Value} {b o : Nat} (h : ∀ p, ok u → TL r n P ops rest ⟨D, E, row b o (f u p) :: (g u p ++ L)⟩ K) : TL r n P ops rest ⟨D, E, row b o l :: is (exR sz f g ok hlen hone) u l :: L⟩ K := fun W a w hh => by
  obtain ⟨p, _, hok, hs⟩ := ex_gives hh.2
  exact h p hok W a w ⟨hh.1, hs⟩
/-- Such an element's cells, made. -/
theorem ex_rep {u : α} (p : β) (hk : Knows L (fun M => Sep (g u p) M Mem.emp)) (hok : ok u) : Knows L (fun M => (exR sz f g ok hlen hone).rep M u (f u p)) := hk.mono fun M h => ⟨p, rfl, h, hok⟩
theorem sep_sl {γ : Type} {R : Rep γ} {A : Option Addr} {c : Nat} {xs : List γ} (hk : SlK L R A c xs) : Knows L (fun M => Sep [sl R A c xs] M Mem.emp) := hk.mono fun M h => ⟨Mem.emp, Mem.emp, Mem.emp_disj _, Mem.le_refl _, Mem.le_refl _, h, trivial⟩
end
end Go.SL
set_option linter.unusedVariables false
set_option linter.unusedSimpArgs false
namespace Go.SL
open Go Go.Proofs
structure OrderD where
  token : ByteArray
  cart : ByteArray
  epoch : Int
  cut : List Int
structure EntryD where
  noop : Bool
  order : OrderD
structure VotedD where
  slot : Int
  bal : Int × Int
  en : EntryD
abbrev orderC (s : OrderD) (p : Option Addr × Nat) : List Value := [.string s.token, .string s.cart, .int .i64 s.epoch, .slice p.1 s.cut.length p.2]
abbrev entryC (e : EntryD) (p : Option Addr × Nat) : List Value := [.bool e.noop, .string e.order.token, .string e.order.cart, .int .i64 e.order.epoch, .slice p.1 e.order.cut.length p.2]
abbrev votedC (v : VotedD) (p : Option Addr × Nat) : List Value := [.int .i64 v.slot, .int .i64 v.bal.1, .int .i64 v.bal.2, .bool v.en.noop, .string v.en.order.token, .string v.en.order.cart, .int .i64 v.en.order.epoch, .slice p.1 v.en.order.cut.length p.2]
def orderOk' (s : OrderD) : Prop := s.token.size ≤ maxEl ∧ s.cart.size ≤ maxEl ∧ intIn .i64 s.epoch ∧ s.cut.length ≤ 17592186043904
def votedOk (v : VotedD) : Prop := intIn .i64 v.slot ∧ intIn .i64 v.bal.1 ∧ intIn .i64 v.bal.2 ∧ orderOk' v.en.order
def orderR : Rep OrderD := exR 4 orderC (fun s p => [sl (intR .i64) p.1 p.2 s.cut]) orderOk' (fun _ _ => rfl) (fun _ _ => rfl)
def entryR : Rep EntryD := exR 5 entryC (fun e p => [sl (intR .i64) p.1 p.2 e.order.cut]) (fun e => orderOk' e.order) (fun _ _ => rfl) (fun _ _ => rfl)
def votedR : Rep VotedD := exR 8 votedC (fun v p => [sl (intR .i64) p.1 p.2 v.en.order.cut]) votedOk (fun _ _ => rfl) (fun _ _ => rfl)
def emptyS : ByteArray := ⟨#[]⟩
def voted0 (noop : Bool) : VotedD := ⟨0, (0, 0), ⟨noop, ⟨⟨#[]⟩, ⟨#[]⟩, 0, []⟩⟩⟩

theorem clone_i64_spec {L : List HP} {A : Option Addr} {c : Nat} {xs : List Int} (hk : SlK L (intR .i64) A c xs) (hb : xs.length ≤ 17592186043904) : Fn Try.prog 52 #[.slice A xs.length c] L (fun v L' => ∃ A' c', v = .slice A' xs.length c' ∧ L' = osl (intR .i64) 3 A' c' xs :: L) := by
  refine Fn_enter Try.func52 rfl rfl rfl rfl ?_
  refine T_region ?_
  refine TL_y rfl rfl (Y_assign rfl) ?_
  refine TL_nil ?_
  refine T_seq ?_
  refine T_region ?_
  refine TL_y rfl rfl (Y_move rfl) ?_
  refine TL_y rfl rfl (Y_equal rfl rfl (EqIs.slice_nil)) ?_
  refine TL_nil ?_
  refine T_if rfl (fun h4 => ?_) (fun h4 => ?_)
  · subst h4
    refine T_fact hk.none_nil (fun _ h => h) (fun e => ?_)
    subst e
    refine T_onil (A := none) (intR .i64) 3 ?_
    refine T_region ?_
    refine TL_y rfl rfl (Y_assign rfl) ?_
    refine TL_nil ?_
    refine T_ret ?_
    refine thenS_ret ?_
    exact RetG_1 (.inl rfl) rfl (ResV.tmp rfl) GivesTo.g (⟨none, 0, rfl, rfl⟩)
  · refine T_skip ?_
    refine thenS_normal ?_
    refine T_region ?_
    refine TL_build_slice rfl rfl rfl rfl rfl rfl ?_
    intro b5
    refine TL_osl (k := 0) (intR .i64) [] (Knows.const fun M => rfl) rfl (by simp) ?_
    refine TL_name 5 (v' := .slice (some ⟨b5, 0, none⟩) ([] : List Int).length 0) rfl rfl ?_
    refine TL_y rfl rfl (Y_move rfl) ?_
    refine TL_append rfl rfl rfl rfl rfl (hk) (by (try simp only [List.length_append, List.length_cons, List.length_nil]); omega) ?_
    intro A7 c7
    refine TL_y rfl rfl (Y_assign rfl) ?_
    refine TL_nil ?_
    refine T_ret ?_
    simp only [List.nil_append]
    exact RetG_1 (.inl rfl) rfl (ResV.tmp rfl) GivesTo.g (⟨A7, c7, rfl, rfl⟩)
end Go.SL
set_option linter.unusedVariables false
set_option linter.unusedSimpArgs false
namespace Go.SL
open Go Go.Proofs

def betterV (slot : Int) (o : Option VotedD) (v : VotedD) : Option VotedD :=
  if v.slot = slot then (match o with
    | none => some v
    | some b => if 0 < cmpB v.bal b.bal then some v else some b) else o
/-- The vote in a slot that is of the greatest ballot, the first of those. -/
def pickV (slot : Int) (l : List VotedD) : Option VotedD := l.foldl (betterV slot) none
def bestOr (o : Option VotedD) : VotedD := match o with
  | some v => v
  | none => voted0 true
theorem pickV_next {slot : Int} {l : List VotedD} {i : Nat} {u : VotedD} (h : l[i]? = some u) : pickV slot (l.take (i + 1)) = betterV slot (pickV slot (l.take i)) u := by
  rw [List.take_add_one, h]
  simp [pickV, List.foldl_append]
theorem better_no {slot : Int} {o : Option VotedD} {u : VotedD} (h : ¬ u.slot = slot) : betterV slot o u = o := by simp only [betterV, if_neg h]
theorem better_first {slot : Int} {o : Option VotedD} {u : VotedD} (h : u.slot = slot) (ho : o.isSome = false) : betterV slot o u = some u := by
  cases o with
  | none => simp only [betterV, if_pos h]
  | some b => cases ho
theorem better_more {slot : Int} {o : Option VotedD} {u : VotedD} (h : u.slot = slot) (ho : o.isSome = true) (hc : 0 < cmpB u.bal (bestOr o).bal) : betterV slot o u = some u := by
  cases o with
  | none => cases ho
  | some b => simp only [betterV, if_pos h]; rw [if_pos (show 0 < cmpB u.bal b.bal from hc)]
theorem better_less {slot : Int} {o : Option VotedD} {u : VotedD} (h : u.slot = slot) (ho : o.isSome = true) (hc : ¬ 0 < cmpB u.bal (bestOr o).bal) : betterV slot o u = o := by
  cases o with
  | none => cases ho
  | some b => simp only [betterV, if_pos h]; rw [if_neg (show ¬ 0 < cmpB u.bal b.bal from hc)]
theorem bestOr_some (u : VotedD) : bestOr (some u) = u := rfl
structure PickSt where
  i : Nat
  A : Option Addr
  c : Nat
theorem pick_spec {L : List HP} {A : Option Addr} {c : Nat} {l : List VotedD} (hk : SlK L votedR A c l) (slot : Int) : Fn Try.prog 14 #[.slice A l.length c, .int .i64 slot] L (fun v L' => ∃ A' c', v = .tuple #[.agg (entryC (bestOr (pickV slot l)).en (A', c')).toArray, .bool (pickV slot l).isSome] ∧ L' = sl (intR .i64) A' c' (bestOr (pickV slot l)).en.order.cut :: L) := by
  refine Fn_enter Try.func14 rfl rfl rfl rfl ?_
  refine hk.lens fun hl => ?_
  simp only [maxEl] at hl
  refine T_gives hk.lay ?_
  refine T_region ?_
  refine TL_alloc rfl rfl ?_
  intro b4
  refine TL_y rfl rfl (Y_assign rfl) ?_
  refine TL_nil ?_
  refine T_region ?_
  refine TL_y rfl rfl (Y_build rfl rfl) ?_
  refine TL_y rfl rfl (Y_build rfl rfl) ?_
  refine TL_alloc rfl rfl ?_
  intro b6
  refine TL_store rfl rfl rfl rfl rfl rfl ?_
  refine TL_nil ?_
  refine T_region ?_
  refine TL_y rfl rfl (Y_assign rfl) ?_
  refine TL_nil ?_
  refine T_seq ?_
  refine T_region ?_
  refine TL_y rfl rfl (Y_move rfl) ?_
  refine TL_y rfl rfl (Y_len rfl) ?_
  refine TL_y rfl rfl (Y_move rfl) ?_
  refine TL_nil ?_
  refine T_block ?_
  refine T_loopK (σ := PickSt) [1, 4, 6, 12, 13] (fun g => g.i ≤ l.length ∧ (bestOr (pickV slot (l.take g.i))).en.order.cut.length ≤ 17592186043904) (fun g kv => (14, .int .i64 (g.i : Int)) :: (7, .bool (pickV slot (l.take g.i)).isSome) :: kv) (fun g => cells b6 (votedC (bestOr (pickV slot (l.take g.i))) (g.A, g.c)) 50 :: sl (intR .i64) g.A g.c (bestOr (pickV slot (l.take g.i))).en.order.cut :: cells b4 (entryC (voted0 false).en (none, 0)) 27 :: sl votedR A c l :: L) (fun g => l.length - g.i) (⟨0, none, 0⟩) rfl (⟨Nat.zero_le _, by simp [pickV, bestOr, voted0]⟩) (Gives.cons _ (SlK.lay (slnil (R := intR .i64) (A := none) (c := 0)))) (sub_cons rfl (sub_cons rfl (sub_cons rfl (sub_cons rfl (sub_cons rfl (sub_cons rfl (sub_cons rfl (sub_nil)))))))) ?_
  rintro ⟨i, A2, c2⟩ ⟨hi, hcut⟩
  dsimp only at hi hcut ⊢
  refine T_region ?_
  refine TL_y rfl rfl (Y_lt rfl rfl) ?_
  refine TL_nil ?_
  refine T_seq ?_
  refine T_if rfl (fun h15 => ?_) (fun h15 => ?_)
  · refine T_skip ?_
    refine thenS_normal ?_
    refine T_seq ?_
    refine T_block ?_
    refine T_region ?_
    obtain ⟨u, hu⟩ : ∃ u, l[i]? = some u := ⟨_, List.getElem?_eq_getElem (by omega)⟩
    have hnx := pickV_next (slot := slot) hu
    refine TL_index rfl rfl rfl slk hu ?_
    intro bi16 oi16 li16
    refine TL_ex ?_
    rintro ⟨A3, c3⟩ hok
    simp only [List.cons_append, List.nil_append]
    refine TL_y rfl rfl (Y_load_row_agg rfl rfl) ?_
    refine TL_alloc rfl rfl ?_
    intro b9
    refine TL_store rfl rfl rfl rfl rfl rfl ?_
    refine TL_nil ?_
    refine T_region ?_
    refine TL_y rfl rfl (Y_field_addr rfl) ?_
    refine TL_y rfl rfl (Y_load rfl rfl) ?_
    refine TL_y rfl rfl (Y_move rfl) ?_
    refine TL_y rfl rfl (Y_eq rfl rfl) ?_
    refine TL_y rfl rfl (Y_move rfl) ?_
    refine TL_splitd 22 rfl (fun h22 => ?_) (fun h22 => ?_)
    · refine TL_grun rfl rfl ?_
      refine TL_y rfl rfl (Y_move rfl) ?_
      refine TL_grun rfl rfl ?_
      refine TL_y rfl rfl (Y_not rfl) ?_
      refine TL_grun rfl rfl ?_
      refine TL_y rfl rfl (Y_move rfl) ?_
      refine TL_split 25 rfl (fun h25 => ?_) (fun h25 => ?_)
      · refine TL_gskip rfl rfl rfl rfl ?_
        refine TL_gskip rfl rfl rfl rfl ?_
        refine TL_gskip rfl rfl rfl rfl ?_
        refine TL_gskip rfl rfl rfl rfl ?_
        refine TL_gskip rfl rfl rfl rfl ?_
        refine TL_gskip rfl rfl rfl rfl ?_
        refine TL_grun rfl rfl ?_
        refine TL_y rfl rfl (Y_pick_t rfl rfl) ?_
        refine TL_y rfl rfl (Y_pick_t rfl rfl) ?_
        refine TL_nil ?_
        refine T_cond_true rfl ?_
        refine T_region_last ?_
        refine TL_y rfl rfl (Y_load_agg rfl rfl) ?_
        refine TL_store rfl rfl rfl rfl rfl rfl ?_
        refine TL_y rfl rfl (Y_assign rfl) ?_
        refine TL_nil ?_
        refine inB_normal ?_
        refine thenS_normal ?_
        refine T_region_last ?_
        refine TL_y rfl rfl (Y_add rfl rfl (by omega)) ?_
        refine TL_name 35 (v' := .int .i64 ((i + 1 : Nat) : Int)) rfl (rfl) ?_
        refine TL_y rfl rfl (Y_move rfl) ?_
        refine TL_nil ?_
        refine thenS_normal ?_
        have hp := hnx.trans (better_first h22 (by simpa using h25))
        refine ⟨⟨i + 1, A3, c3⟩, ?_, by simp only; omega, ?_⟩
        · dsimp only; rw [hp]; exact ⟨by omega, hok.2.2.2.2.2.2⟩
        · dsimp only; rw [hp]; simp only [bestOr_some, Option.isSome_some]; exact holds_to (sub_cons rfl (sub_cons rfl (sub_cons rfl (sub_cons rfl (sub_cons rfl (sub_cons rfl (sub_cons rfl (sub_nil)))))))) GivesTo.g
      · refine TL_grun rfl rfl ?_
        refine TL_y rfl rfl (Y_field_addr rfl) ?_
        refine TL_grun rfl rfl ?_
        refine TL_y rfl rfl (Y_load_agg rfl rfl) ?_
        refine TL_grun rfl rfl ?_
        refine TL_y rfl rfl (Y_field_addr rfl) ?_
        refine TL_grun rfl rfl ?_
        refine TL_y rfl rfl (Y_load_agg rfl rfl) ?_
        refine TL_grun rfl rfl ?_
        refine TL_call rfl rfl (compare_spec u.bal (bestOr (pickV slot (l.take i))).bal _) ?_
        rintro _ _ ⟨rfl, rfl⟩
        refine TL_grun rfl rfl ?_
        refine TL_y rfl rfl (Y_gt rfl rfl) ?_
        refine TL_grun rfl rfl ?_
        refine TL_y rfl rfl (Y_pick_f rfl rfl) ?_
        refine TL_y rfl rfl (Y_pick_t rfl rfl) ?_
        refine TL_nil ?_
        refine T_if rfl (fun h33 => ?_) (fun h33 => ?_)
        · refine T_region_last ?_
          refine TL_y rfl rfl (Y_load_agg rfl rfl) ?_
          refine TL_store rfl rfl rfl rfl rfl rfl ?_
          refine TL_y rfl rfl (Y_assign rfl) ?_
          refine TL_nil ?_
          refine inB_normal ?_
          refine thenS_normal ?_
          refine T_region_last ?_
          refine TL_y rfl rfl (Y_add rfl rfl (by omega)) ?_
          refine TL_name 35 (v' := .int .i64 ((i + 1 : Nat) : Int)) rfl (rfl) ?_
          refine TL_y rfl rfl (Y_move rfl) ?_
          refine TL_nil ?_
          refine thenS_normal ?_
          have hp := hnx.trans (better_more h22 (by simpa using h25) h33)
          refine ⟨⟨i + 1, A3, c3⟩, ?_, by simp only; omega, ?_⟩
          · dsimp only; rw [hp]; exact ⟨by omega, hok.2.2.2.2.2.2⟩
          · dsimp only; rw [hp]; simp only [bestOr_some, Option.isSome_some]; exact holds_to (sub_cons rfl (sub_cons rfl (sub_cons rfl (sub_cons rfl (sub_cons rfl (sub_cons rfl (sub_cons rfl (sub_nil)))))))) GivesTo.g
        · refine T_skip ?_
          refine inB_normal ?_
          refine thenS_normal ?_
          refine T_region_last ?_
          refine TL_y rfl rfl (Y_add rfl rfl (by omega)) ?_
          refine TL_name 35 (v' := .int .i64 ((i + 1 : Nat) : Int)) rfl (rfl) ?_
          refine TL_y rfl rfl (Y_move rfl) ?_
          refine TL_nil ?_
          refine thenS_normal ?_
          have hp := hnx.trans (better_less h22 (by simpa using h25) h33)
          refine ⟨⟨i + 1, A2, c2⟩, ?_, by simp only; omega, ?_⟩
          · dsimp only; rw [hp]; exact ⟨by omega, hcut⟩
          · dsimp only; rw [hp]; exact holds_to (sub_cons rfl (sub_cons rfl (sub_cons rfl (sub_cons rfl (sub_cons rfl (sub_cons rfl (sub_cons rfl (sub_nil)))))))) GivesTo.g
    · refine TL_gskip rfl rfl rfl rfl ?_
      refine TL_gskip rfl rfl rfl rfl ?_
      refine TL_gskip rfl rfl rfl rfl ?_
      refine TL_gskip_u rfl rfl rfl ?_
      refine TL_gskip_u rfl rfl rfl ?_
      refine TL_gskip_u rfl rfl rfl ?_
      refine TL_gskip_u rfl rfl rfl ?_
      refine TL_gskip_u rfl rfl rfl ?_
      refine TL_gskip_u rfl rfl rfl ?_
      refine TL_gskip rfl rfl rfl rfl ?_
      refine TL_y rfl rfl (Y_pick_f rfl rfl) ?_
      refine TL_nil ?_
      refine T_cond_false rfl ?_
      refine T_skip ?_
      refine inB_normal ?_
      refine thenS_normal ?_
      refine T_region_last ?_
      refine TL_y rfl rfl (Y_add rfl rfl (by omega)) ?_
      refine TL_name 35 (v' := .int .i64 ((i + 1 : Nat) : Int)) rfl (rfl) ?_
      refine TL_y rfl rfl (Y_move rfl) ?_
      refine TL_nil ?_
      refine thenS_normal ?_
      have hp := hnx.trans (better_no h22)
      refine ⟨⟨i + 1, A2, c2⟩, ?_, by simp only; omega, ?_⟩
      · dsimp only; rw [hp]; exact ⟨by omega, hcut⟩
      · dsimp only; rw [hp]; exact holds_to (sub_cons rfl (sub_cons rfl (sub_cons rfl (sub_cons rfl (sub_cons rfl (sub_cons rfl (sub_cons rfl (sub_nil)))))))) GivesTo.g
  · refine T_exit ?_
    refine thenS_exit ?_
    refine thenS_exit ?_
    refine inB_hit ?_
    refine thenS_normal ?_
    have e : l.take i = l := List.take_of_length_le (by omega)
    rw [e] at hcut ⊢
    refine T_region ?_
    refine TL_y rfl rfl (Y_field_addr rfl) ?_
    refine TL_y rfl rfl (Y_field_addr rfl) ?_
    refine TL_y rfl rfl (Y_field_addr rfl) ?_
    refine TL_y rfl rfl (Y_load rfl rfl) ?_
    refine TL_call rfl rfl (clone_i64_spec slk hcut) ?_
    rintro _ _ ⟨A40, c40, rfl, rfl⟩
    refine TL_freeze_osl ?_
    refine TL_y rfl rfl (Y_field_addr rfl) ?_
    refine TL_y rfl rfl (Y_field_addr rfl) ?_
    refine TL_y rfl rfl (Y_field_addr rfl) ?_
    refine TL_store rfl rfl rfl rfl rfl rfl ?_
    refine TL_nil ?_
    refine T_region ?_
    refine TL_y rfl rfl (Y_field_addr rfl) ?_
    refine TL_y rfl rfl (Y_load_agg rfl rfl) ?_
    refine TL_y rfl rfl (Y_move rfl) ?_
    refine TL_store rfl rfl rfl rfl rfl rfl ?_
    refine TL_y rfl rfl (Y_assign rfl) ?_
    refine TL_nil ?_
    refine T_ret ?_
    exact RetG_2 (.inl rfl) rfl (ResV.agg rfl rfl) (ResV.tmp rfl) GivesTo.g (⟨A40, c40, rfl, rfl⟩)
end Go.SL
set_option linter.unusedVariables false
set_option linter.unusedSimpArgs false
namespace Go.SL
open Go Go.Proofs
abbrev lv1 : VotedD := ⟨2, (1, 2), ⟨false, ⟨⟨#[98]⟩, ⟨#[]⟩, 0, []⟩⟩⟩
abbrev lv2 : VotedD := ⟨2, (1, 0), ⟨false, ⟨⟨#[97]⟩, ⟨#[]⟩, 0, []⟩⟩⟩
end Go.SL
set_option linter.unusedVariables false
set_option linter.unusedSimpArgs false
namespace Go.SL
open Go Go.Proofs
theorem newVotes_ok {n : Int} (h : 1 ≤ n ∧ n ≤ 7) (L : List HP) : Fn Try.prog 56 #[.int .i64 n] L (fun v L' => ∃ b, v = .tuple #[.pointer (some ⟨b, 0, none⟩), .int .i64 0] ∧ L' = votes b (List.replicate 7 false) n :: L) := (newVotes_spec n L).cases_ fun v L' k => by
  rcases k with ⟨k, _⟩ | ⟨_, k⟩
  · exact absurd h k
  · exact k
def addL (bs : List Bool) (n : Int) (l : List Int) : List Bool := l.foldl (fun bs x => addV bs n x) bs
end Go.SL
set_option linter.unusedVariables false
set_option linter.unusedSimpArgs false
namespace Go.SL
open Go Go.Proofs
def nextB (a : Int × Int) (node : Int) : (Int × Int) × Int := if ¬ (0 ≤ node ∧ node < 7) then ((0, 0), 1) else if a.1 < 0 ∨ 2147483647 ≤ a.1 then ((0, 0), 2) else ((a.1 + 1, node), 0)
theorem isNode_spec (m : Int) (L : List HP) : Fn Try.prog 107 #[.int .i64 m] L (fun v L' => v = .bool (decide (0 ≤ m ∧ m < 7)) ∧ L' = L) := by
  refine Fn_enter Try.func107 rfl rfl rfl rfl ?_
  refine T_region ?_
  refine TL_y rfl rfl (Y_assign rfl) ?_
  refine TL_nil ?_
  refine T_region ?_
  refine TL_y rfl rfl (Y_move rfl) ?_
  refine TL_y rfl rfl (Y_ge rfl rfl) ?_
  refine TL_y rfl rfl (Y_move rfl) ?_
  refine TL_splitd 5 rfl (fun h5 => ?_) (fun h5 => ?_)
  · refine TL_grun rfl rfl ?_
    refine TL_y rfl rfl (Y_move rfl) ?_
    refine TL_grun rfl rfl ?_
    refine TL_y rfl rfl (Y_lt rfl rfl) ?_
    refine TL_y rfl rfl (Y_pick_t rfl rfl) ?_
    refine TL_y rfl rfl (Y_assign rfl) ?_
    refine TL_nil ?_
    refine T_ret ?_
    exact RetG_1 (.inl rfl) rfl (ResV.tmp rfl) GivesTo.g (⟨by simp [h5], rfl⟩)
  · refine TL_gskip rfl rfl rfl rfl ?_
    refine TL_gskip rfl rfl rfl rfl ?_
    refine TL_y rfl rfl (Y_pick_f rfl rfl) ?_
    refine TL_y rfl rfl (Y_assign rfl) ?_
    refine TL_nil ?_
    refine T_ret ?_
    exact RetG_1 (.inl rfl) rfl (ResV.tmp rfl) GivesTo.g (⟨by simp [h5], rfl⟩)
theorem next_spec (a : Int × Int) (node : Int) (L : List HP) : Fn Try.prog 78 #[balV a, .int .i64 node] L (fun v L' => v = .tuple #[balV (nextB a node).1, .int .i64 (nextB a node).2] ∧ L' = L) := by
  refine Fn_enter Try.func78 rfl rfl rfl rfl ?_
  refine T_region ?_
  refine TL_box rfl rfl rfl ?_
  intro b2
  refine TL_alloc rfl rfl ?_
  intro b4
  refine TL_y rfl rfl (Y_assign rfl) ?_
  refine TL_nil ?_
  refine T_seq ?_
  refine T_block ?_
  refine T_region ?_
  refine TL_y rfl rfl (Y_move rfl) ?_
  refine TL_call rfl rfl (isNode_spec _ _) ?_
  rintro _ _ ⟨rfl, rfl⟩
  refine TL_y rfl rfl (Y_not_d rfl) ?_
  refine TL_y rfl rfl (Y_assign rfl) ?_
  refine TL_nil ?_
  refine T_if rfl (fun h6 => ?_) (fun h6 => ?_)
  · refine T_region ?_
    refine TL_y rfl rfl (Y_build rfl rfl) ?_
    refine TL_store rfl rfl rfl rfl rfl rfl ?_
    refine TL_y rfl rfl (Y_assign rfl) ?_
    refine TL_nil ?_
    refine T_ret ?_
    refine inB_ret ?_
    refine thenS_ret ?_
    exact RetG_2 (.inl rfl) rfl (ResV.agg rfl rfl) (ResV.tmp rfl) GivesTo.g (⟨by rw [nextB, if_pos h6], rfl⟩)
  · refine T_region ?_
    refine TL_y rfl rfl (Y_field_addr rfl) ?_
    refine TL_y rfl rfl (Y_load rfl rfl) ?_
    refine TL_y rfl rfl (Y_lt rfl rfl) ?_
    refine TL_y rfl rfl (Y_move rfl) ?_
    refine TL_splitd 15 rfl (fun h15 => ?_) (fun h15 => ?_)
    · refine TL_gskip rfl rfl rfl rfl ?_
      refine TL_gskip rfl rfl rfl rfl ?_
      refine TL_gskip rfl rfl rfl rfl ?_
      refine TL_y rfl rfl (Y_pick_t rfl rfl) ?_
      refine TL_y rfl rfl (Y_assign rfl) ?_
      refine TL_nil ?_
      refine T_cond_true rfl ?_
      refine T_region ?_
      refine TL_y rfl rfl (Y_build rfl rfl) ?_
      refine TL_store rfl rfl rfl rfl rfl rfl ?_
      refine TL_y rfl rfl (Y_assign rfl) ?_
      refine TL_nil ?_
      refine T_ret ?_
      refine inB_ret ?_
      refine thenS_ret ?_
      exact RetG_2 (.inl rfl) rfl (ResV.agg rfl rfl) (ResV.tmp rfl) GivesTo.g (⟨by rw [nextB, if_neg h6, if_pos (by omega)], rfl⟩)
    · refine TL_grun rfl rfl ?_
      refine TL_y rfl rfl (Y_field_addr rfl) ?_
      refine TL_grun rfl rfl ?_
      refine TL_y rfl rfl (Y_load rfl rfl) ?_
      refine TL_grun rfl rfl ?_
      refine TL_y rfl rfl (Y_ge rfl rfl) ?_
      refine TL_y rfl rfl (Y_pick_f rfl rfl) ?_
      refine TL_y rfl rfl (Y_assign rfl) ?_
      refine TL_nil ?_
      refine T_if rfl (fun h11 => ?_) (fun h11 => ?_)
      · refine T_region ?_
        refine TL_y rfl rfl (Y_build rfl rfl) ?_
        refine TL_store rfl rfl rfl rfl rfl rfl ?_
        refine TL_y rfl rfl (Y_assign rfl) ?_
        refine TL_nil ?_
        refine T_ret ?_
        refine inB_ret ?_
        refine thenS_ret ?_
        exact RetG_2 (.inl rfl) rfl (ResV.agg rfl rfl) (ResV.tmp rfl) GivesTo.g (⟨by rw [nextB, if_neg h6, if_pos (by omega)], rfl⟩)
      · refine T_skip ?_
        refine inB_normal ?_
        refine thenS_normal ?_
        refine T_region ?_
        refine TL_y rfl rfl (Y_field_addr rfl) ?_
        refine TL_y rfl rfl (Y_load rfl rfl) ?_
        refine TL_y rfl rfl (Y_add rfl rfl (by omega)) ?_
        refine TL_y rfl rfl (Y_move rfl) ?_
        refine TL_y rfl rfl (Y_build rfl rfl) ?_
        refine TL_store rfl rfl rfl rfl rfl rfl ?_
        refine TL_y rfl rfl (Y_assign rfl) ?_
        refine TL_nil ?_
        refine T_ret ?_
        exact RetG_2 (.inl rfl) rfl (ResV.agg rfl rfl) (ResV.tmp rfl) GivesTo.g (⟨by rw [nextB, if_neg h6, if_neg (by omega)], rfl⟩)

theorem bal_guard : Try.prog.eqGuardType Try.prog.depth 40 = false := by kernel_rfl
theorem bal_held : Try.prog.stoodInHeld 40 = false := by kernel_rfl
theorem eq_bal (dd : Nat) (w : World) (a b : Int × Int) : (Op.equalIn (dd + 2) 40 (balV a) (balV b)).run Try.prog w = .ok (decide (a = b)) w := by
  have hn : ∀ x y, (Op.equalIn (dd + 1) 3 (.int .i64 x) (.int .i64 y)).run Try.prog w = .ok (decide (x = y)) w := fun x y => EqIs.int (k := .i64) dd w
  generalize hdd : dd + 1 = d1 at hn
  have : dd + 2 = d1 + 1 := by omega
  rw [this]
  simp [Op.equalIn, Try.runUnderlying40, bal_held, part, Try.isAgg3, hn]
  by_cases h1 : a.1 = b.1 <;> by_cases h2 : a.2 = b.2 <;> simp [h1, h2, Prod.ext_iff]
section
variable {E : Env} {L : List HP} {ty : TypeId}
theorem eq_bal' (w : World) (a b : Int × Int) : (Op.equal 40 (balV a) (balV b)).run Try.prog w = .ok (decide (a = b)) w := eq_bal 9998 w a b
theorem Y_eq_bal {x y : Operand} {t' : TypeId} {a b : Int × Int} (hx : ev E x = some (balV a)) (hy : ev E y = some (balV b)) : Yl Try.prog E L (.binOp .eql 40 x y t') ty (.bool (decide (a = b))) := fun n D W ac w dst pos af g hv hs => by
  have h3 : ∀ xs ys : Array Value, Go.binOp .eql 40 (.agg xs) (.agg ys) = (do Pure.pure (Value.bool (← Op.equal 40 (.agg xs) (.agg ys))) : Sem Value) := fun xs ys => by simp only [Go.binOp]
  simp only [execOp, hv.ev hx, hv.ev hy, eqGuard, h3]
  simp [bal_guard, eq_bal']
theorem Y_ne_bal {x y : Operand} {t' : TypeId} {a b : Int × Int} (hx : ev E x = some (balV a)) (hy : ev E y = some (balV b)) : Yl Try.prog E L (.binOp .neq 40 x y t') ty (.bool (!decide (a = b))) := fun n D W ac w dst pos af g hv hs => by
  have h3 : ∀ xs ys : Array Value, Go.binOp .neq 40 (.agg xs) (.agg ys) = (do Pure.pure (Value.bool (!(← Op.equal 40 (.agg xs) (.agg ys)))) : Sem Value) := fun xs ys => by simp only [Go.binOp]
  simp only [execOp, hv.ev hx, hv.ev hy, eqGuard, h3]
  simp [bal_guard, eq_bal']
end

theorem cmpI_neg (x y : Int) : cmpI x y = - cmpI y x := by unfold cmpI; split <;> split <;> (try split) <;> omega
theorem cmpB_neg (a b : Int × Int) : cmpB a b = - cmpB b a := by
  have := cmpI_neg a.2 b.2
  unfold cmpB; split <;> split <;> (try split) <;> omega
theorem cmpI_zero {x y : Int} : cmpI x y = 0 ↔ x = y := by unfold cmpI; split <;> (try split) <;> omega
theorem cmpB_zero {a b : Int × Int} : cmpB a b = 0 ↔ a = b := by
  have := cmpI_zero (x := a.2) (y := b.2)
  rw [Prod.ext_iff]
  unfold cmpB; split <;> (try split) <;> omega
theorem cmpI_lt {x y : Int} : cmpI x y < 0 ↔ x < y := by unfold cmpI; split <;> (try split) <;> omega
theorem cmpB_lt {a b : Int × Int} : cmpB a b < 0 ↔ a.1 < b.1 ∨ (a.1 = b.1 ∧ a.2 < b.2) := by
  have := cmpI_lt (x := a.2) (y := b.2)
  unfold cmpB; split <;> (try split) <;> omega
end Go.SL
set_option linter.unusedVariables false
set_option linter.unusedSimpArgs false
namespace Go.SL
open Go Go.Proofs

instance (k : IntKind) (x : Int) : Decidable (intIn k x) := by unfold intIn; exact inferInstance
theorem drop_at {α : Type} {l : List α} {i : Nat} {s : α} (h : l[i]? = some s) : l.drop i = s :: l.drop (i + 1) := by
  have hlt := (List.getElem?_eq_some_iff.1 h).1
  rw [List.drop_eq_getElem_cons hlt]
  congr 1
  exact (List.getElem?_eq_some_iff.1 h).2
theorem take_at {α : Type} {l : List α} {i : Nat} {s : α} (h : l[i]? = some s) : l.take (i + 1) = l.take i ++ [s] := by rw [List.take_add_one, h]; rfl
/-! ### Plain -/
/-- A number's bytes. -/
def grp (x : Nat) : List Int := if x < 128 then [(x : Int)] else ((x % 128 : Nat) + 128 : Int) :: grp (x / 128)
  termination_by x
  decreasing_by omega
theorem grp_small {x : Nat} (h : x < 128) : grp x = [(x : Int)] := by rw [grp, if_pos h]
theorem grp_big {x : Nat} (h : ¬ x < 128) : grp x = ((x % 128 : Nat) + 128 : Int) :: grp (x / 128) := by rw [grp, if_neg h]
theorem grp_pos (x : Nat) : 0 < (grp x).length := by
  rw [grp]; split <;> simp
theorem grp_len : ∀ (k x : Nat), x < 128 ^ (k + 1) → (grp x).length ≤ k + 1
  | 0, x, h => by rw [grp_small (by simpa using h)]; simp
  | k + 1, x, h => by
    by_cases hx : x < 128
    · rw [grp_small hx]; simp
    · rw [grp_big hx]
      have := grp_len k (x / 128) (by rw [Nat.pow_succ] at h; omega)
      simp; omega
theorem grp_ten {x : Nat} (h : x < 18446744073709551616) : (grp x).length ≤ 10 := grp_len 9 x (Nat.lt_of_lt_of_le h (by decide))
theorem u8_or : ∀ m : Fin 256, bitsOf .or .u8 (m.val : Int) 128 = ((m.val % 128 : Nat) : Int) + 128 := by decide +kernel
theorem u8_wrap (x : Nat) : IntKind.u8.wrap (x : Int) = ((x % 256 : Nat) : Int) := by
  simp [IntKind.wrap, IntKind.bits, IntKind.signed]
theorem u8_or_wrap (x : Nat) : bitsOf .or .u8 (IntKind.u8.wrap (x : Int)) 128 = ((x % 128 : Nat) : Int) + 128 := by
  rw [u8_wrap]
  have := u8_or ⟨x % 256, Nat.mod_lt _ (by decide)⟩
  simp only at this
  rw [this]
  omega
theorem shr7 (x : Nat) : (x : Int).fdiv (2 ^ min (7 : Int).toNat IntKind.u64.bits) = ((x / 128 : Nat) : Int) := by
  have : (2 : Int) ^ min (7 : Int).toNat IntKind.u64.bits = 128 := by decide
  rw [this, Int.fdiv_eq_ediv_of_nonneg _ (by decide)]
  omega
/-- What a byte list in the making looks like. -/
structure GrpSt where
  y : Nat
  out : List Int
  A : Option Addr
  c : Nat
def GrpI (x : Nat) (g : GrpSt) : Prop := g.y < 18446744073709551616 ∧ g.out ++ grp g.y = grp x ∧ x < 18446744073709551616
theorem GrpI.len {x : Nat} {g : GrpSt} (h : GrpI x g) : g.out.length < 10 := by
  have := congrArg List.length h.2.1
  have h1 := grp_ten h.2.2
  have := grp_pos g.y
  simp at *
  omega
theorem GrpI.next {x : Nat} {g : GrpSt} (h : GrpI x g) (hy : ¬ g.y < 128) (A : Option Addr) (c : Nat) : GrpI x ⟨g.y / 128, g.out ++ [((g.y % 128 : Nat) : Int) + 128], A, c⟩ := by
  refine ⟨by have := h.1; simp only; omega, ?_, h.2.2⟩
  rw [← h.2.1, grp_big hy]
  simp
theorem byteIn {x : Nat} : intIn .u8 (((x % 128 : Nat) : Int) + 128) := u8In_mk (by omega)

/-! ### group -/
theorem group_spec (x : Nat) (hx : x < 18446744073709551616) (L : List HP) : Fn Try.prog 172 #[.int .u64 (x : Int)] L (fun v L' => ∃ A c, v = .slice A (grp x).length c ∧ L' = osl (intR .u8) 5 A c (grp x) :: L) := by
  refine Fn_enter Try.func172 rfl rfl rfl rfl ?_
  refine T_region ?_
  refine TL_y rfl rfl (Y_assign rfl) ?_
  refine TL_nil ?_
  refine T_region ?_
  refine TL_y rfl rfl (Y_assign rfl) ?_
  refine TL_nil ?_
  refine T_seq ?_
  refine T_block ?_
  refine T_loopK (σ := GrpSt) [] (fun g => GrpI x g) (fun g kv => (0, .int .u64 (g.y : Int)) :: (3, .slice g.A g.out.length g.c) :: kv) (fun g => osl (intR .u8) 5 g.A g.c g.out :: L) (fun g => g.y) (⟨x, [], none, 0⟩) rfl (⟨hx, rfl, hx⟩) (osl_nil _ _ _ _) (sub_cons rfl (sub_cons rfl (sub_nil))) ?_
  intro g hg
  have hl := hg.len
  refine T_seq ?_
  refine T_region ?_
  refine TL_y rfl rfl (Y_move rfl) ?_
  refine TL_y rfl rfl (Y_ge rfl rfl) ?_
  refine TL_nil ?_
  refine T_if rfl (fun h5 => ?_) (fun h5 => ?_)
  · refine T_skip ?_
    refine thenS_normal ?_
    refine T_seq ?_
    refine T_block ?_
    refine T_region_last ?_
    refine TL_y rfl rfl (Y_move rfl) ?_
    refine TL_y rfl rfl (Y_move rfl) ?_
    refine TL_y rfl rfl (Y_conv rfl) ?_
    refine TL_y rfl rfl (Y_bits (by simp) rfl rfl) ?_
    refine TL_name 11 (v' := .int .u8 (((g.y % 128 : Nat) : Int) + 128)) rfl (by rw [u8_or_wrap]) ?_
    refine TL_build_slice rfl rfl rfl rfl rfl rfl ?_
    intro b12
    refine TL_osl (intR .u8) [((g.y % 128 : Nat) : Int) + 128] (Knows.const fun M => cells_ints (xs := [((g.y % 128 : Nat) : Int) + 128]) (by simpa using byteIn) M) rfl (by simp) ?_
    refine TL_freeze_osl ?_
    refine TL_name 12 (v' := .slice (some ⟨b12, 0, none⟩) [((g.y % 128 : Nat) : Int) + 128].length 1) rfl rfl ?_
    refine TL_append rfl rfl rfl rfl rfl slk (by (try simp only [List.length_append, List.length_cons, List.length_nil]); omega) ?_
    intro A13 c13
    refine TL_y rfl rfl (Y_assign rfl) ?_
    refine TL_nil ?_
    refine inB_normal ?_
    refine thenS_normal ?_
    refine T_region_last ?_
    refine TL_y rfl rfl (Y_move rfl) ?_
    refine TL_y rfl rfl (Y_shr rfl rfl (by omega)) ?_
    refine TL_name 7 (v' := .int .u64 ((g.y / 128 : Nat) : Int)) rfl (by rw [shr7]) ?_
    refine TL_y rfl rfl (Y_assign rfl) ?_
    refine TL_nil ?_
    refine thenS_normal ?_
    exact ⟨⟨g.y / 128, g.out ++ [((g.y % 128 : Nat) : Int) + 128], A13, c13⟩, hg.next (by omega) A13 c13, by simp only; omega, holds_to (sub_cons rfl (sub_cons rfl (sub_nil))) GivesTo.g⟩
  · refine T_exit ?_
    refine thenS_exit ?_
    refine thenS_exit ?_
    refine inB_hit ?_
    refine thenS_normal ?_
    refine T_region ?_
    refine TL_y rfl rfl (Y_move rfl) ?_
    refine TL_y rfl rfl (Y_move rfl) ?_
    refine TL_y rfl rfl (Y_conv rfl) ?_
    refine TL_name 16 (v' := .int .u8 (g.y : Int)) rfl (by rw [u8_wrap, Nat.mod_eq_of_lt (by omega)]) ?_
    refine TL_build_slice rfl rfl rfl rfl rfl rfl ?_
    intro b17
    refine TL_osl (intR .u8) [(g.y : Int)] (Knows.const fun M => cells_ints (xs := [(g.y : Int)]) (by simpa using u8In_mk (by omega)) M) rfl (by simp) ?_
    refine TL_freeze_osl ?_
    refine TL_name 17 (v' := .slice (some ⟨b17, 0, none⟩) [(g.y : Int)].length 1) rfl rfl ?_
    refine TL_append rfl rfl rfl rfl rfl slk (by (try simp only [List.length_append, List.length_cons, List.length_nil]); omega) ?_
    intro A18 c18
    refine TL_y rfl rfl (Y_assign rfl) ?_
    refine TL_nil ?_
    refine T_ret ?_
    have e : g.out ++ [(g.y : Int)] = grp x := by rw [← hg.2.1, grp_small (by omega)]
    rw [e]
    exact RetG_1 (.inl rfl) rfl (ResV.tmp rfl) GivesTo.g (⟨A18, c18, rfl, rfl⟩)
end Go.SL
set_option linter.unusedVariables false
set_option linter.unusedSimpArgs false
namespace Go.SL
open Go Go.Proofs
theorem u64_small {x : Nat} (h : x < 18446744073709551616) : IntKind.u64.wrap (x : Int) = (x : Int) := IntWalk.u64_in _ (by omega)
end Go.SL
set_option linter.unusedVariables false
set_option linter.unusedSimpArgs false
namespace Go.SL
open Go Go.Proofs

def val : List Int → Nat
  | [] => 0
  | d :: ds => d.toNat % 128 + 128 * val ds
def High (ds : List Int) : Prop := ∀ d ∈ ds, 128 ≤ d ∧ d ≤ 255
theorem grp_form : ∀ (n x : Nat), x ≤ n → ∃ ds c, grp x = ds ++ [c] ∧ High ds ∧ 0 ≤ c ∧ c < 128 ∧ (c ≠ 0 ∨ ds = []) ∧ x = val (ds ++ [c])
  | n, x, hn => by
    by_cases hx : x < 128
    · exact ⟨[], x, by rw [grp_small hx]; rfl, fun d hd => (by cases hd), by omega, by omega, .inr rfl, by simp only [List.nil_append, val]; omega⟩
    · match n, hn with
      | 0, hn => omega
      | n + 1, hn =>
      obtain ⟨ds, c, h1, h2, h3, h4, h5, h6⟩ := grp_form n (x / 128) (by omega)
      refine ⟨((x % 128 : Nat) + 128 : Int) :: ds, c, by rw [grp_big hx, h1]; rfl, ?_, h3, h4, ?_, ?_⟩
      · intro d hd
        rcases List.mem_cons.1 hd with rfl | hd
        · omega
        · exact h2 d hd
      · left
        rcases h5 with h | h
        · exact h
        · subst h
          simp only [List.nil_append, val] at h6
          omega
      · simp only [List.cons_append, val, ← h6]
        omega
theorem val_grp (x : Nat) : val (grp x) = x := by
  obtain ⟨ds, c, h1, _, _, _, _, h6⟩ := grp_form x x (Nat.le_refl _)
  rw [h1, ← h6]
theorem grp_inj {x y : Nat} (h : grp x = grp y) : x = y := by rw [← val_grp x, h, val_grp]

/-- What reading a number from bytes comes to. -/
def RdU (bs : List Int) (x n e : Nat) : Prop :=
  (e = 0 ∧ x < 18446744073709551616 ∧ bs.take n = grp x ∧ n = (grp x).length ∧ n ≤ bs.length) ∨ (e = 10 ∧ x = 0 ∧ n = 0 ∧ ∀ y, y < 18446744073709551616 → ¬ grp y <+: bs)
/-- Bytes that all go on: a number's bytes are more. -/
theorem grp_more {bs : List Int} {y i : Nat} (hp : grp y <+: bs) (hi : High (bs.take i)) : i < (grp y).length := by
  obtain ⟨ds, c, h1, h2, h3, h4, h5, h6⟩ := grp_form y y (Nat.le_refl _)
  apply Classical.byContradiction
  intro hlt
  obtain ⟨t, ht⟩ := hp
  have hm : c ∈ bs.take i := by
    rw [← ht, List.take_append, List.take_of_length_le (by omega), h1]
    simp
  have := hi c hm
  omega
theorem grp_at {bs : List Int} {y i : Nat} {c : Int} (hp : grp y <+: bs) (hi : High (bs.take i)) (hc : bs[i]? = some c) (h1 : c < 128) : ∃ ds, grp y = ds ++ [c] ∧ ds.length = i ∧ 0 ≤ c ∧ (c ≠ 0 ∨ ds = []) ∧ y = val (ds ++ [c]) := by
  have hl := grp_more hp hi
  obtain ⟨ds, c', g1, g2, g3, g4, g5, g6⟩ := grp_form y y (Nat.le_refl _)
  obtain ⟨t, ht⟩ := hp
  have hlen : (grp y).length = ds.length + 1 := by rw [g1]; simp
  have hci : (ds ++ [c'])[i]? = some c := by
    have e : (grp y ++ t)[i]? = (grp y)[i]? := List.getElem?_append_left hl
    rw [ht, hc] at e
    rw [← g1]
    exact e.symm
  have : i = ds.length := by
    apply Classical.byContradiction
    intro hne
    rw [List.getElem?_append_left (by omega)] at hci
    have := g2 c (List.mem_of_getElem? hci)
    omega
  subst this
  simp at hci
  subst hci
  exact ⟨ds, g1, rfl, g3, g5, g6⟩
theorem rdU_unique {bs : List Int} {x n e x' n' e' : Nat} (h : RdU bs x n e) (k : RdU bs x' n' e') : x = x' ∧ n = n' ∧ e = e' := by
  have pre : ∀ {x n}, bs.take n = grp x → grp x <+: bs := fun h => h ▸ List.take_prefix _ _
  rcases h with ⟨h1, h2, h3, h4, h5⟩ | ⟨h1, h2, h3, h4⟩ <;> rcases k with ⟨k1, k2, k3, k4, k5⟩ | ⟨k1, k2, k3, k4⟩
  · subst h1; subst k1
    have : grp x = grp x' := by
      obtain ⟨ds, c, a1, a2, a3, a4, a5, a6⟩ := grp_form x x (Nat.le_refl _)
      have hx := pre h3
      obtain ⟨t, ht⟩ := hx
      have hH : High (bs.take ds.length) := by rw [← ht, a1]; simp [a2]
      have hc : bs[ds.length]? = some c := by rw [← ht, a1]; simp
      obtain ⟨ds', b1, b2, _⟩ := grp_at (pre k3) hH hc a4
      have e1 : n = n' := by rw [h4, k4, a1, b1]; simp [b2]
      rw [← h3, ← k3, e1]
    have e := grp_inj this
    subst e
    exact ⟨rfl, by omega, rfl⟩
  · exact absurd (pre h3) (k4 _ h2)
  · exact absurd (pre k3) (h4 _ k2)
  · subst h1; subst h2; subst h3; subst k1; subst k2; subst k3; exact ⟨rfl, rfl, rfl⟩
theorem rdU_of_grp {x : Nat} (hx : x < 18446744073709551616) (t : List Int) : RdU (grp x ++ t) x (grp x).length 0 := .inl ⟨rfl, hx, by simp, rfl, by simp⟩

/-! ### Bits -/
end Go.SL
set_option linter.unusedVariables false
set_option linter.unusedSimpArgs false
namespace Go.SL
open Go Go.Proofs

end Go.SL
set_option linter.unusedVariables false
set_option linter.unusedSimpArgs false
namespace Go.SL
open Go Go.Proofs

/-- The bytes of a text. -/
def txt (s : ByteArray) : List Int := grp s.size ++ strBytes s
/-- May it be a name? -/
def nameByte (c : Int) : Prop := (97 ≤ c ∧ c ≤ 122) ∨ (48 ≤ c ∧ c ≤ 57) ∨ c = 45
instance (c : Int) : Decidable (nameByte c) := by unfold nameByte; exact inferInstance
def isName (s : ByteArray) : Prop := (∀ c ∈ strBytes s, nameByte c) ∧ s.size ≠ 0 ∧ s.size ≤ 32
instance (s : ByteArray) : Decidable (isName s) := by unfold isName; exact inferInstance
theorem take_next {α : Type} {p : α → Prop} {xs : List α} {i : Nat} {u : α} (h : ∀ c ∈ xs.take i, p c) (hu : xs[i]? = some u) (hp : p u) : ∀ c ∈ xs.take (i + 1), p c := by
  intro c hc
  rw [List.take_add_one, hu] at hc
  rcases List.mem_append.1 hc with hc | hc
  · exact h c hc
  · simp at hc; subst hc; exact hp
theorem not_name {s : ByteArray} {u : Int} {i : Nat} (hu : (strBytes s)[i]? = some u) (h : ¬ nameByte u) : ¬ isName s := fun ⟨k, _⟩ => h (k u (List.mem_of_getElem? hu))
theorem empty_eq (s : ByteArray) : s = ⟨#[]⟩ ↔ s.size = 0 := by
  constructor
  · rintro rfl; rfl
  · intro h
    cases s with
    | mk d =>
      have : d.size = 0 := h
      rw [Array.size_eq_zero_iff] at this
      rw [this]
theorem name_spec (L : List HP) (s : ByteArray) (hb : s.size ≤ maxEl) : Fn Try.prog 180 #[.string s] L (fun v L' => v = .bool (decide (isName s)) ∧ L' = L) := by
  have hsl := strBytes_length s
  refine Fn_enter Try.func180 rfl rfl rfl rfl ?_
  refine T_region ?_
  refine TL_y rfl rfl (Y_assign rfl) ?_
  refine TL_nil ?_
  refine T_seq ?_
  refine T_region ?_
  refine TL_y rfl rfl (Y_move rfl) ?_
  refine TL_str_bytes rfl rfl (hb) ?_
  intro A6 c6
  refine TL_y rfl rfl (Y_len rfl) ?_
  refine TL_y rfl rfl (Y_move rfl) ?_
  refine TL_nil ?_
  refine T_block ?_
  refine T_loopK (σ := Nat) [0, 6, 7] (fun i => i ≤ (strBytes s).length ∧ ∀ c ∈ (strBytes s).take i, nameByte c) (fun i kv => (8, .int .i64 (i : Int)) :: kv) (fun i => sl (intR .u8) A6 c6 (strBytes s) :: L) (fun i => (strBytes s).length - i) (0) rfl (⟨Nat.zero_le _, by simp⟩) (GivesTo.g) (sub_cons rfl (sub_cons rfl (sub_cons rfl (sub_cons rfl (sub_nil))))) ?_
  intro i hi
  refine T_region ?_
  refine TL_y rfl rfl (Y_lt rfl rfl) ?_
  refine TL_nil ?_
  refine T_seq ?_
  refine T_if rfl (fun h9 => ?_) (fun h9 => ?_)
  · refine T_skip ?_
    refine thenS_normal ?_
    refine T_seq ?_
    refine T_block ?_
    refine T_region ?_
    obtain ⟨u, hu⟩ : ∃ u, (strBytes s)[i]? = some u := ⟨_, List.getElem?_eq_getElem (by omega)⟩
    refine TL_index_int rfl rfl rfl slk hu ?_
    intro hi10 bi10 oi10
    have hu8 := u8In hi10
    refine TL_y rfl rfl (Y_load_row rfl rfl) ?_
    refine TL_y rfl rfl (Y_assign rfl) ?_
    refine TL_nil ?_
    refine T_region ?_
    refine TL_y rfl rfl (Y_move rfl) ?_
    refine TL_y rfl rfl (Y_lt rfl rfl) ?_
    refine TL_y rfl rfl (Y_move rfl) ?_
    refine TL_splitd 14 rfl (fun h14 => ?_) (fun h14 => ?_)
    · refine TL_gskip rfl rfl rfl rfl ?_
      refine TL_gskip rfl rfl rfl rfl ?_
      refine TL_y rfl rfl (Y_pick_t rfl rfl) ?_
      refine TL_y rfl rfl (Y_move rfl) ?_
      refine TL_grun rfl rfl ?_
      refine TL_y rfl rfl (Y_move rfl) ?_
      refine TL_grun rfl rfl ?_
      refine TL_y rfl rfl (Y_lt rfl rfl) ?_
      refine TL_grun rfl rfl ?_
      refine TL_y rfl rfl (Y_move rfl) ?_
      refine TL_splitd 21 rfl (fun h21 => ?_) (fun h21 => ?_)
      · refine TL_gskip rfl rfl rfl rfl ?_
        refine TL_gskip rfl rfl rfl rfl ?_
        refine TL_grun rfl rfl ?_
        refine TL_y rfl rfl (Y_pick_t rfl rfl) ?_
        refine TL_y rfl rfl (Y_pick_t rfl rfl) ?_
        refine TL_y rfl rfl (Y_move rfl) ?_
        refine TL_grun rfl rfl ?_
        refine TL_y rfl rfl (Y_move rfl) ?_
        refine TL_grun rfl rfl ?_
        refine TL_y rfl rfl (Y_ne rfl rfl) ?_
        refine TL_y rfl rfl (Y_pick_t rfl rfl) ?_
        refine TL_nil ?_
        refine T_if rfl (fun h29 => ?_) (fun h29 => ?_)
        · refine T_region ?_
          refine TL_y rfl rfl (Y_assign rfl) ?_
          refine TL_nil ?_
          refine T_ret ?_
          refine inB_ret ?_
          refine thenS_ret ?_
          refine thenS_ret ?_
          refine inB_ret ?_
          refine thenS_ret ?_
          exact RetG_1 (.inl rfl) rfl (ResV.tmp rfl) GivesTo.g (⟨by rw [decide_eq_false (not_name hu (by unfold nameByte; omega))], rfl⟩)
        · refine T_skip ?_
          refine inB_normal ?_
          refine thenS_normal ?_
          refine T_region_last ?_
          refine TL_y rfl rfl (Y_add rfl rfl (by simp only [maxEl] at hb; omega)) ?_
          refine TL_name 30 (v' := .int .i64 ((i + 1 : Nat) : Int)) rfl (rfl) ?_
          refine TL_y rfl rfl (Y_move rfl) ?_
          refine TL_nil ?_
          refine thenS_normal ?_
          exact ⟨i + 1, ⟨by omega, take_next hi.2 hu (by unfold nameByte; omega)⟩, by omega, holds_to (sub_cons rfl (sub_cons rfl (sub_cons rfl (sub_cons rfl (sub_nil))))) GivesTo.g⟩
      · refine TL_grun rfl rfl ?_
        refine TL_y rfl rfl (Y_move rfl) ?_
        refine TL_grun rfl rfl ?_
        refine TL_y rfl rfl (Y_gt rfl rfl) ?_
        refine TL_grun rfl rfl ?_
        refine TL_y rfl rfl (Y_pick_f rfl rfl) ?_
        refine TL_y rfl rfl (Y_pick_t rfl rfl) ?_
        refine TL_y rfl rfl (Y_move rfl) ?_
        refine TL_splitd 26 rfl (fun h26 => ?_) (fun h26 => ?_)
        · refine TL_grun rfl rfl ?_
          refine TL_y rfl rfl (Y_move rfl) ?_
          refine TL_grun rfl rfl ?_
          refine TL_y rfl rfl (Y_ne rfl rfl) ?_
          refine TL_y rfl rfl (Y_pick_t rfl rfl) ?_
          refine TL_nil ?_
          refine T_if rfl (fun h29 => ?_) (fun h29 => ?_)
          · refine T_region ?_
            refine TL_y rfl rfl (Y_assign rfl) ?_
            refine TL_nil ?_
            refine T_ret ?_
            refine inB_ret ?_
            refine thenS_ret ?_
            refine thenS_ret ?_
            refine inB_ret ?_
            refine thenS_ret ?_
            exact RetG_1 (.inl rfl) rfl (ResV.tmp rfl) GivesTo.g (⟨by rw [decide_eq_false (not_name hu (by unfold nameByte; omega))], rfl⟩)
          · refine T_skip ?_
            refine inB_normal ?_
            refine thenS_normal ?_
            refine T_region_last ?_
            refine TL_y rfl rfl (Y_add rfl rfl (by simp only [maxEl] at hb; omega)) ?_
            refine TL_name 30 (v' := .int .i64 ((i + 1 : Nat) : Int)) rfl (rfl) ?_
            refine TL_y rfl rfl (Y_move rfl) ?_
            refine TL_nil ?_
            refine thenS_normal ?_
            exact ⟨i + 1, ⟨by omega, take_next hi.2 hu (by unfold nameByte; omega)⟩, by omega, holds_to (sub_cons rfl (sub_cons rfl (sub_cons rfl (sub_cons rfl (sub_nil))))) GivesTo.g⟩
        · refine TL_gskip rfl rfl rfl rfl ?_
          refine TL_gskip rfl rfl rfl rfl ?_
          refine TL_y rfl rfl (Y_pick_f rfl rfl) ?_
          refine TL_nil ?_
          refine T_cond_false rfl ?_
          refine T_skip ?_
          refine inB_normal ?_
          refine thenS_normal ?_
          refine T_region_last ?_
          refine TL_y rfl rfl (Y_add rfl rfl (by simp only [maxEl] at hb; omega)) ?_
          refine TL_name 30 (v' := .int .i64 ((i + 1 : Nat) : Int)) rfl (rfl) ?_
          refine TL_y rfl rfl (Y_move rfl) ?_
          refine TL_nil ?_
          refine thenS_normal ?_
          exact ⟨i + 1, ⟨by omega, take_next hi.2 hu (by unfold nameByte; omega)⟩, by omega, holds_to (sub_cons rfl (sub_cons rfl (sub_cons rfl (sub_cons rfl (sub_nil))))) GivesTo.g⟩
    · refine TL_grun rfl rfl ?_
      refine TL_y rfl rfl (Y_move rfl) ?_
      refine TL_grun rfl rfl ?_
      refine TL_y rfl rfl (Y_gt rfl rfl) ?_
      refine TL_y rfl rfl (Y_pick_f rfl rfl) ?_
      refine TL_y rfl rfl (Y_move rfl) ?_
      refine TL_splitd 18 rfl (fun h18 => ?_) (fun h18 => ?_)
      · refine TL_grun rfl rfl ?_
        refine TL_y rfl rfl (Y_move rfl) ?_
        refine TL_grun rfl rfl ?_
        refine TL_y rfl rfl (Y_lt rfl rfl) ?_
        refine TL_grun rfl rfl ?_
        refine TL_y rfl rfl (Y_move rfl) ?_
        refine TL_splitd 21 rfl (fun h21 => ?_) (fun h21 => ?_)
        · refine TL_gskip rfl rfl rfl rfl ?_
          refine TL_gskip rfl rfl rfl rfl ?_
          refine TL_grun rfl rfl ?_
          refine TL_y rfl rfl (Y_pick_t rfl rfl) ?_
          refine TL_y rfl rfl (Y_pick_t rfl rfl) ?_
          refine TL_y rfl rfl (Y_move rfl) ?_
          refine TL_grun rfl rfl ?_
          refine TL_y rfl rfl (Y_move rfl) ?_
          refine TL_grun rfl rfl ?_
          refine TL_y rfl rfl (Y_ne rfl rfl) ?_
          refine TL_y rfl rfl (Y_pick_t rfl rfl) ?_
          refine TL_nil ?_
          refine T_if rfl (fun h29 => ?_) (fun h29 => ?_)
          · refine T_region ?_
            refine TL_y rfl rfl (Y_assign rfl) ?_
            refine TL_nil ?_
            refine T_ret ?_
            refine inB_ret ?_
            refine thenS_ret ?_
            refine thenS_ret ?_
            refine inB_ret ?_
            refine thenS_ret ?_
            exact RetG_1 (.inl rfl) rfl (ResV.tmp rfl) GivesTo.g (⟨by rw [decide_eq_false (not_name hu (by unfold nameByte; omega))], rfl⟩)
          · refine T_skip ?_
            refine inB_normal ?_
            refine thenS_normal ?_
            refine T_region_last ?_
            refine TL_y rfl rfl (Y_add rfl rfl (by simp only [maxEl] at hb; omega)) ?_
            refine TL_name 30 (v' := .int .i64 ((i + 1 : Nat) : Int)) rfl (rfl) ?_
            refine TL_y rfl rfl (Y_move rfl) ?_
            refine TL_nil ?_
            refine thenS_normal ?_
            exact ⟨i + 1, ⟨by omega, take_next hi.2 hu (by unfold nameByte; omega)⟩, by omega, holds_to (sub_cons rfl (sub_cons rfl (sub_cons rfl (sub_cons rfl (sub_nil))))) GivesTo.g⟩
        · refine TL_grun rfl rfl ?_
          refine TL_y rfl rfl (Y_move rfl) ?_
          refine TL_grun rfl rfl ?_
          refine TL_y rfl rfl (Y_gt rfl rfl) ?_
          refine TL_grun rfl rfl ?_
          refine TL_y rfl rfl (Y_pick_f rfl rfl) ?_
          refine TL_y rfl rfl (Y_pick_t rfl rfl) ?_
          refine TL_y rfl rfl (Y_move rfl) ?_
          refine TL_splitd 26 rfl (fun h26 => ?_) (fun h26 => ?_)
          · refine TL_grun rfl rfl ?_
            refine TL_y rfl rfl (Y_move rfl) ?_
            refine TL_grun rfl rfl ?_
            refine TL_y rfl rfl (Y_ne rfl rfl) ?_
            refine TL_y rfl rfl (Y_pick_t rfl rfl) ?_
            refine TL_nil ?_
            refine T_if rfl (fun h29 => ?_) (fun h29 => ?_)
            · refine T_region ?_
              refine TL_y rfl rfl (Y_assign rfl) ?_
              refine TL_nil ?_
              refine T_ret ?_
              refine inB_ret ?_
              refine thenS_ret ?_
              refine thenS_ret ?_
              refine inB_ret ?_
              refine thenS_ret ?_
              exact RetG_1 (.inl rfl) rfl (ResV.tmp rfl) GivesTo.g (⟨by rw [decide_eq_false (not_name hu (by unfold nameByte; omega))], rfl⟩)
            · refine T_skip ?_
              refine inB_normal ?_
              refine thenS_normal ?_
              refine T_region_last ?_
              refine TL_y rfl rfl (Y_add rfl rfl (by simp only [maxEl] at hb; omega)) ?_
              refine TL_name 30 (v' := .int .i64 ((i + 1 : Nat) : Int)) rfl (rfl) ?_
              refine TL_y rfl rfl (Y_move rfl) ?_
              refine TL_nil ?_
              refine thenS_normal ?_
              exact ⟨i + 1, ⟨by omega, take_next hi.2 hu (by unfold nameByte; omega)⟩, by omega, holds_to (sub_cons rfl (sub_cons rfl (sub_cons rfl (sub_cons rfl (sub_nil))))) GivesTo.g⟩
          · refine TL_gskip rfl rfl rfl rfl ?_
            refine TL_gskip rfl rfl rfl rfl ?_
            refine TL_y rfl rfl (Y_pick_f rfl rfl) ?_
            refine TL_nil ?_
            refine T_cond_false rfl ?_
            refine T_skip ?_
            refine inB_normal ?_
            refine thenS_normal ?_
            refine T_region_last ?_
            refine TL_y rfl rfl (Y_add rfl rfl (by simp only [maxEl] at hb; omega)) ?_
            refine TL_name 30 (v' := .int .i64 ((i + 1 : Nat) : Int)) rfl (rfl) ?_
            refine TL_y rfl rfl (Y_move rfl) ?_
            refine TL_nil ?_
            refine thenS_normal ?_
            exact ⟨i + 1, ⟨by omega, take_next hi.2 hu (by unfold nameByte; omega)⟩, by omega, holds_to (sub_cons rfl (sub_cons rfl (sub_cons rfl (sub_cons rfl (sub_nil))))) GivesTo.g⟩
      · refine TL_gskip rfl rfl rfl rfl ?_
        refine TL_gskip rfl rfl rfl rfl ?_
        refine TL_gskip rfl rfl rfl rfl ?_
        refine TL_gskip_u rfl rfl rfl ?_
        refine TL_gskip_u rfl rfl rfl ?_
        refine TL_gskip rfl rfl rfl rfl ?_
        refine TL_y rfl rfl (Y_pick_f rfl rfl) ?_
        refine TL_y rfl rfl (Y_move rfl) ?_
        refine TL_gskip rfl rfl rfl rfl ?_
        refine TL_gskip rfl rfl rfl rfl ?_
        refine TL_y rfl rfl (Y_pick_f rfl rfl) ?_
        refine TL_nil ?_
        refine T_cond_false rfl ?_
        refine T_skip ?_
        refine inB_normal ?_
        refine thenS_normal ?_
        refine T_region_last ?_
        refine TL_y rfl rfl (Y_add rfl rfl (by simp only [maxEl] at hb; omega)) ?_
        refine TL_name 30 (v' := .int .i64 ((i + 1 : Nat) : Int)) rfl (rfl) ?_
        refine TL_y rfl rfl (Y_move rfl) ?_
        refine TL_nil ?_
        refine thenS_normal ?_
        exact ⟨i + 1, ⟨by omega, take_next hi.2 hu (by unfold nameByte; omega)⟩, by omega, holds_to (sub_cons rfl (sub_cons rfl (sub_cons rfl (sub_cons rfl (sub_nil))))) GivesTo.g⟩
  · refine T_exit ?_
    refine thenS_exit ?_
    refine thenS_exit ?_
    refine inB_hit ?_
    refine thenS_normal ?_
    refine T_region ?_
    refine TL_y rfl rfl (Y_move rfl) ?_
    refine TL_y rfl rfl (Y_str_ne rfl rfl) ?_
    refine TL_y rfl rfl (Y_move rfl) ?_
    refine TL_splitd 33 rfl (fun h33 => ?_) (fun h33 => ?_)
    · refine TL_grun rfl rfl ?_
      refine TL_y rfl rfl (Y_move rfl) ?_
      refine TL_grun rfl rfl ?_
      refine TL_y rfl rfl (Y_len_str rfl) ?_
      refine TL_grun rfl rfl ?_
      refine TL_y rfl rfl (Y_le rfl rfl) ?_
      refine TL_y rfl rfl (Y_pick_t rfl rfl) ?_
      refine TL_y rfl rfl (Y_assign rfl) ?_
      refine TL_nil ?_
      refine T_ret ?_
      have hall : ∀ c ∈ strBytes s, nameByte c := by have := hi.2; rwa [List.take_of_length_le (by omega)] at this
      exact RetG_1 (.inl rfl) rfl (ResV.tmp rfl) GivesTo.g (⟨by rw [decide_eq_decide.2 (show isName s ↔ (s.size : Int) ≤ 32 from ⟨fun h => by have := h.2.2; omega, fun h => ⟨hall, fun e => h33 ((empty_eq s).2 e), by omega⟩⟩)], rfl⟩)
    · refine TL_gskip rfl rfl rfl rfl ?_
      refine TL_gskip rfl rfl rfl rfl ?_
      refine TL_gskip rfl rfl rfl rfl ?_
      refine TL_y rfl rfl (Y_pick_f rfl rfl) ?_
      refine TL_y rfl rfl (Y_assign rfl) ?_
      refine TL_nil ?_
      refine T_ret ?_
      have hall : ∀ c ∈ strBytes s, nameByte c := by have := hi.2; rwa [List.take_of_length_le (by omega)] at this
      exact RetG_1 (.inl rfl) rfl (ResV.tmp rfl) GivesTo.g (⟨by rw [decide_eq_false (fun h => h.2.1 ((empty_eq s).1 (Classical.not_not.1 h33)))], rfl⟩)

/-- What reading a text from bytes comes to. -/
def RdT (bs : List Int) (most : Int) (s : ByteArray) (n e : Nat) : Prop :=
  (e = 0 ∧ (s.size : Int) ≤ most ∧ bs.take n = txt s ∧ n = (txt s).length ∧ n ≤ bs.length) ∨ (e = 10 ∧ s = ⟨#[]⟩ ∧ n = 0 ∧ ∀ s' : ByteArray, (s'.size : Int) ≤ most → ¬ txt s' <+: bs)
end Go.SL
set_option linter.unusedVariables false
set_option linter.unusedSimpArgs false
namespace Go.SL
open Go
/-- In all states of L the cells from place o of block b on are l. -/
def AtL (L : List HP) (b o : Nat) (l : List Value) : Prop := ∀ W w, Sat W w L → ∀ j v, l[j]? = some v → w.cell? ⟨b, o + j, none⟩ = some v
/-- Whose cells are known by what they say. -/
class RepF {α : Type} (R : Rep α) (f : outParam (α → List Value)) : Prop where
  e : ∀ M x cs, R.rep M x cs → cs = f x
instance {k : IntKind} : RepF (intR k) (fun x => [.int k x]) := ⟨fun _ _ _ h => h.1⟩
instance : RepF boolR (fun x => [.bool x]) := ⟨fun _ _ _ h => h⟩
instance : RepF strR (fun x => [.string x]) := ⟨fun _ _ _ h => h.1⟩
section
variable {r : Option Nat} {n : Nat} {P : Program} {ops : Array Oper} {rest : List Oper} {K : St → Prop} {Q : Exit → St → Prop} {D : List Deferred} {E : Env} {L L' : List HP} {d : Nat} {ty : TypeId} {pos : String} {af : Array Edge}
theorem AtL.gives {b o : Nat} {l : List Value} (g : Gives L L') (h : AtL L' b o l) : AtL L b o l := fun W w hs => h W w (hs.gives g)
variable {α : Type} {R : Rep α} {A : Option Addr} {c : Nat} {xs : List α}
/-! ### One element laid open -/
def oslxAt (M h : Mem) (R : Rep α) (t : TypeId) (g c : Nat) (xs : List α) (i : Nat) (l : List Value) : Prop :=
  ∃ cur, h g = some (.cells cur t (0, 0)) ∧ cur.size = c * R.sz ∧ xs.length ≤ c ∧ c ≤ 9223372036854775807 ∧ xs.length ≤ maxEl ∧ i < xs.length ∧ l.length = R.sz ∧
    (∀ k x, k ≠ i → xs[k]? = some x → ∃ l, R.rep M x l ∧ ∀ j v, l[j]? = some v → cur[k * R.sz + j]? = some v) ∧ (∀ j v, l[j]? = some v → cur[i * R.sz + j]? = some v)
def oslx (R : Rep α) (t : TypeId) (g c : Nat) (xs : List α) (i : Nat) (l : List Value) : HP :=
  ⟨fun M h => oslxAt M h R t g c xs i l, fun hM hh ⟨cur, a1, a2, a3, a4, a5, a6, a7, a8, a9⟩ => ⟨cur, hh _ _ a1, a2, a3, a4, a5, a6, a7, fun k x hk hx => let ⟨l, hl, hc⟩ := a8 k x hk hx; ⟨l, R.mono hM hl, hc⟩, a9⟩⟩
class FindX (L : List HP) (g : Nat) (α : outParam Type) (R : outParam (Rep α)) (t : outParam TypeId) (c : outParam Nat) (xs : outParam (List α)) (i : outParam Nat) (l : outParam (List Value)) (L' : outParam (List HP)) : Prop where
  g : Gives L (oslx R t g c xs i l :: L')
instance findX_tail {p : HP} {L L' : List HP} {g : Nat} {α : Type} {R : Rep α} {t : TypeId} {c : Nat} {xs : List α} {i : Nat} {l : List Value} [h : FindX L g α R t c xs i l L'] : FindX (p :: L) g α R t c xs i l (p :: L') := ⟨(Gives.cons p h.g).trans (Gives.swap p _ _)⟩
instance findX_head {L : List HP} {g : Nat} {α : Type} {R : Rep α} {t : TypeId} {c : Nat} {xs : List α} {i : Nat} {l : List Value} : FindX (oslx R t g c xs i l :: L) g α R t c xs i l L := ⟨Gives.refl _⟩
theorem focus_osl {t : TypeId} {i : Nat} {x : α} (hx : xs[i]? = some x) {W w : World} (hs : Sat W w (osl R t A c xs :: L)) : ∃ g l, A = some ⟨g, 0, none⟩ ∧ l.length = R.sz ∧ Sat W w (oslx R t g c xs i l :: is R x l :: L) := by
  obtain ⟨M, k, hd, hM, hk, h1, h2, hd', l1, l2, hp, hsep⟩ := hs.ex
  rcases hp.2 with ⟨_, rfl⟩ | ⟨g, cur, rfl, hg, hsz, hle, hc, hall⟩
  · simp at hx
  · obtain ⟨l, hl, hcu⟩ := hall i x hx
    exact ⟨g, l, rfl, R.len hl, ⟨M, k, hd, hM, hk, h1, h2, hd', l1, l2, ⟨cur, hg, hsz, hle, hc, hp.1, (List.getElem?_eq_some_iff.1 hx).1, R.len hl, fun k x _ hx => hall k x hx, hcu⟩, Mem.emp, h2, Mem.emp_disj _, Mem.emp_le _, Mem.le_refl _, hl, hsep⟩, hs.os, hs.tape, hs.output, hs.size⟩
theorem T_focus {te : TypeId} {L0 : List HP} [ho : FindO L A c α R te xs L0] {i : Nat} {x : α} {c' : Code} (hx : xs[i]? = some x) (h : ∀ g l, A = some ⟨g, 0, none⟩ → l.length = R.sz → T r n P c' ⟨D, E, oslx R te g c xs i l :: is R x l :: L0⟩ Q) : T r n P c' ⟨D, E, L⟩ Q := fun W a w hh => by
  obtain ⟨g, l, hA, hl, hs⟩ := focus_osl hx (hh.2.gives ho.g)
  exact h g l hA hl W a w ⟨hh.1, hs⟩
theorem TL_store_x {x y : Operand} {t te : TypeId} {g i j m : Nat} {l l' vs : List Value} {v : Value} {L0 : List HP} [hz : TySize P t m] [hc : FindX L g α R te c xs i l L0] (hx : ev E x = some (.pointer (some ⟨g, i * R.sz + j, none⟩))) (hy : ev E y = some v) (hp : partsOf v = some vs)
    (hm : Nat.beq vs.length m = true) (h1 : oneN vs = true) (hl : setN j l vs = some l') (h : TL r n P ops rest ⟨D, E, oslx R te g c xs i l' :: L0⟩ K) : TL r n P ops (⟨none, .store t x y, ty, pos, af, none⟩ :: rest) ⟨D, E, L⟩ K :=
  TL_skip rfl rfl (fun _ e => by cases e) fun W a w hh => by
    have hsat := hh.2.gives hc.g
    obtain ⟨M, k, hd, hM, hk, q1, q2, hd', l1, l2, ⟨cur, hg, a2, a3, a4, a5, a6, a7, a8, a9⟩, hs⟩ := hsat.ex
    have hm' : vs.length = m := Nat.eq_of_beq_eq_true hm
    obtain ⟨e, hle⟩ := setN_eq hl
    have hll : l'.length = l.length := by rw [e]; simp; omega
    have hw : w.heap[g]? = some (.cells cur te (0, 0)) := hk _ _ (l1 _ _ hg)
    have hin : i * R.sz + j + vs.length ≤ cur.toList.length := by
      have : (i + 1) * R.sz ≤ c * R.sz := Nat.mul_le_mul_right _ (by omega)
      rw [Nat.add_mul] at this
      simp only [Array.length_toList, a2]; omega
    have hst := run_storeCells_at P g (i * R.sz + j) te vs 0 cur w hw (by simpa using hin) (oneN_mem h1)
    simp only [Nat.add_zero] at hst
    let cur' : Array Value := (cur.toList.take (i * R.sz + j) ++ vs ++ cur.toList.drop (i * R.sz + j + vs.length)).toArray
    have hsat1 : Sat W w (own g (.cells cur te (0, 0)) :: pers (fun M => (∀ k x, k ≠ i → xs[k]? = some x → ∃ l, R.rep M x l ∧ ∀ j v, l[j]? = some v → cur[k * R.sz + j]? = some v)) (fun hM h k x hk hx => let ⟨l, a, b⟩ := h k x hk hx; ⟨l, R.mono hM a, b⟩) :: L0) :=
      ⟨⟨M, k, hd, hM, hk, q1, q2, hd', l1, l2, hg, Mem.emp, q2, Mem.emp_disj _, Mem.emp_le _, Mem.le_refl _, a8, hs⟩, hsat.os, hsat.tape, hsat.output, hsat.size⟩
    have hset := Sat.set hsat1 (w' := w.setRow g cur') (y := .cells cur' te (0, 0))
      (by simp only [World.setRow, Array.getElem?_modify, if_true, hw, Option.map_some]) (fun i hi => by simp only [World.setRow, Array.getElem?_modify]; rw [if_neg (Ne.symm hi)]) rfl rfl rfl (by simp [World.setRow])
    refine ⟨.skip, w.setRow g cur', oslx R te g c xs i l' :: L0, ?_, .inl rfl, hset.gives fun N mm ⟨k1, k2, kd, m1, m2, ha, k3, k4, kd', m3, m4, hx', hs'⟩ => ?_, h⟩
    · have hrun : (storeVar t ⟨g, i * R.sz + j, none⟩ v).run P w = .ok () (w.setRow g cur') := by
        simp only [storeVar, partsOf_eq hp, Sem.run_bind, hz.run, Result.andThen_ok, List.size_toArray, hm', ne_eq, not_true_eq_false, if_false, Sem.run_pure]
        simpa [cur'] using hst
      simp only [execOp, hh.1.ev hx, hh.1.ev hy, Instr.storeAt, Instr.sureAddr, Sem.run_bind, Sem.run_pure, Result.andThen_ok, hrun]
    · have hcl : cur.toList.length = c * R.sz := by simp [a2]
      have htl : (cur.toList.take (i * R.sz + j)).length = i * R.sz + j := by rw [List.length_take]; omega
      have hjl : j + vs.length ≤ R.sz := by omega
      refine ⟨k1, k4, Mem.disj_le kd (Mem.le_refl _) m4, m1, Mem.le_trans m4 m2, ⟨cur', ha, ?_, a3, a4, a5, a6, by rw [hll]; exact a7, fun q x hq hqx => ?_, fun q v hq => ?_⟩, hs'⟩
      · simp only [cur', List.size_toArray, List.length_append, List.length_take, List.length_drop, hcl]; omega
      · obtain ⟨lq, b1, b2⟩ := hx' q x hq hqx
        refine ⟨lq, b1, fun p v hp => ?_⟩
        have hb := b2 p v hp
        have hpl : p < R.sz := by rw [← R.len b1]; exact (List.getElem?_eq_some_iff.1 hp).1
        have hqk : q < xs.length := (List.getElem?_eq_some_iff.1 hqx).1
        simp only [cur', List.getElem?_toArray]
        rcases Nat.lt_or_gt_of_ne hq with hlt | hgt
        · have : (q + 1) * R.sz ≤ i * R.sz := Nat.mul_le_mul_right _ hlt
          rw [Nat.add_mul] at this
          rw [List.append_assoc, List.getElem?_append_left (by omega), List.getElem?_take, if_pos (by omega)]
          simpa using hb
        · have : (i + 1) * R.sz ≤ q * R.sz := Nat.mul_le_mul_right _ hgt
          rw [Nat.add_mul] at this
          rw [List.getElem?_append_right (by simp only [List.length_append, htl]; omega), List.getElem?_drop]
          simp only [List.length_append, htl]
          rw [show i * R.sz + j + vs.length + (q * R.sz + p - (i * R.sz + j + vs.length)) = q * R.sz + p by omega]
          simpa using hb
      · simp only [cur', List.getElem?_toArray]
        rw [e] at hq
        by_cases h0 : q < j
        · have hq2 : l[q]? = some v := by
            rw [List.append_assoc, List.getElem?_append_left (by rw [List.length_take]; omega), List.getElem?_take, if_pos h0] at hq
            exact hq
          rw [List.append_assoc, List.getElem?_append_left (by omega), List.getElem?_take, if_pos (by omega)]
          simpa using a9 q v hq2
        · have hlt : (l.take j).length = j := by rw [List.length_take]; omega
          by_cases h1' : q < j + vs.length
          · rw [List.append_assoc, List.getElem?_append_right (by omega), hlt, List.getElem?_append_left (by omega)] at hq
            rw [List.append_assoc, List.getElem?_append_right (by omega), htl, show i * R.sz + q - (i * R.sz + j) = q - j by omega, List.getElem?_append_left (by omega)]
            exact hq
          · have hq2 : l[q]? = some v := by
              rw [List.getElem?_append_right (by simp only [List.length_append, hlt]; omega), List.getElem?_drop] at hq
              simp only [List.length_append, hlt] at hq
              rwa [show j + vs.length + (q - (j + vs.length)) = q by omega] at hq
            rw [List.getElem?_append_right (by simp only [List.length_append, htl]; omega), List.getElem?_drop]
            simp only [List.length_append, htl]
            rw [show i * R.sz + j + vs.length + (i * R.sz + q - (i * R.sz + j + vs.length)) = i * R.sz + q by omega]
            simpa using a9 q v hq2
theorem unfocus {t : TypeId} {g i : Nat} {l : List Value} (x : α) (hk : Knows L (fun M => R.rep M x l)) : Gives (oslx R t g c xs i l :: L) (osl R t (some ⟨g, 0, none⟩) c (xs.set i x) :: L) := fun M k ⟨h1, h2, hd, l1, l2, ⟨cur, a1, a2, a3, a4, a5, a6, a7, a8, a9⟩, hs⟩ => by
  have hrep := hk M h2 hs
  refine ⟨h1, h2, hd, l1, l2, ⟨by simpa using a5, .inr ⟨g, cur, rfl, a1, a2, by simpa using a3, a4, fun q y hq => ?_⟩⟩, hs⟩
  rw [List.getElem?_set] at hq
  split at hq
  · rename_i e
    subst e
    first | (rw [if_pos a6] at hq; cases hq) | cases hq
    exact ⟨l, hrep, a9⟩
  · rename_i e
    exact a8 q y (fun h => e h.symm) hq
theorem T_unx {te : TypeId} (g : Nat) {i : Nat} {l : List Value} (x : α) {L0 : List HP} {c' : Code} [hf : FindX L g α R te c xs i l L0] (hk : Knows L0 (fun M => R.rep M x l)) (h : T r n P c' ⟨D, E, osl R te (some ⟨g, 0, none⟩) c (xs.set i x) :: L0⟩ Q) : T r n P c' ⟨D, E, L⟩ Q := T_gives (hf.g.trans (unfocus x hk)) h

/-! ### make -/
/-! ### A chain of truths, joined -/
theorem sub_ext {E E' : Env} {d : Nat} {v : Value} (hd : look E d = none) (hs : ∀ i u, look E i = some u → look E' i = some u) : ∀ i u, look E i = some u → look ((d, v) :: E') i = some u := fun i u h => by
  simp only [look]
  cases e : Nat.beq d i with
  | true =>
    have : d = i := Nat.eq_of_beq_eq_true e
    subst this
    rw [hd] at h; cases h
  | false => exact hs i u h
theorem sub_refl {E : Env} : ∀ i u, look E i = some u → look E i = some u := fun _ _ h => h
theorem TL_chain_end {E' : Env} {g : Nat} {v : Value} {p : Prop} [Decidable p] (hl : look E' g = some v) (e : v = .bool (decide p)) (hs : ∀ i u, look E i = some u → look E' i = some u) (hg : Gives L' L) :
    TL r n P ops [] ⟨D, E', L'⟩ (fun s' => ∀ W a w, Holds n W s' a w → Holds n W ⟨D, (g, .bool (decide p)) :: E, L⟩ a w) :=
  TL_nil (holds_to (sub_cons (by rw [hl, e]) hs) hg)
end
end Go.SL
set_option linter.unusedVariables false
set_option linter.unusedSimpArgs false
set_option linter.unusedSectionVars false
namespace Go.SL
open Go Go.MapKept Go.WideShapes
open Go.ChangeMaps (setBlock)

/-! ### Keys -/
structure KeyT (κ : Type) where
  enc : κ → Value
  ok : κ → Prop
  inj : ∀ a b, enc a = enc b → a = b
def intK : KeyT Int := ⟨fun x => .int .i64 x, intIn .i64, fun a b h => by injection h⟩
def strK : KeyT ByteArray := ⟨fun s => .string s, fun s => s.size ≤ maxEl, fun a b h => by injection h⟩
class KeyOk (P : Program) (t : TypeId) {κ : Type} (K : KeyT κ) : Prop where
  law : Maps.Keyed P t
  key : ∀ k, K.ok k → ∃ l, keyOf P t (K.enc k) = some l
theorem wf_of_in {k : IntKind} {n : Int} (h : intIn k n) : (Lit.int k n).wf = true := by
  simp only [Lit.wf, Bool.and_eq_true, decide_eq_true_eq]; exact h
instance {P : Program} {t : TypeId} [ht : TyDesc P t (.int .i64)] : KeyOk P t intK := ⟨Maps.int_keyed ht.under, fun k hk => ⟨_, Maps.keyOf_int_mk ht.under (wf_of_in hk)⟩⟩
instance {P : Program} {t : TypeId} [ht : TyDesc P t .string] : KeyOk P t strK := ⟨Maps.string_keyed ht.under, fun k hk => ⟨_, WideMaps.keyOf_string_mk ht.under (by have : k.size ≤ maxEl := hk; simp only [maxEl] at this; simp only [maxLen]; omega)⟩⟩
def wrapV : Bool → List Value → Value
  | true, cs => .agg cs.toArray
  | false, [v] => v
  | false, _ => undef
/-- Whose values are known by what they say. -/
class RepV {α : Type} (R : Rep α) (f : outParam (α → Value)) : Prop where
  e : ∀ M x cs, R.rep M x cs → wrapV false cs = f x
instance {k : IntKind} : RepV (intR k) (fun x => .int k x) := ⟨fun M x cs h => by rw [h.1]; rfl⟩
instance : RepV boolR (fun x => .bool x) := ⟨fun M x cs h => by rw [h]; rfl⟩
instance : RepV strR (fun x => .string x) := ⟨fun M x cs h => by rw [h.1]; rfl⟩
/-- A pointer to the front of a block. -/
def ptrR : Rep Nat := ⟨1, fun _ b cs => cs = [.pointer (some ⟨b, 0, none⟩)], fun _ h => h, fun h => by simp [h], fun h v hv => by rw [h] at hv; simp at hv; subst hv; rfl⟩
instance : RepV ptrR (fun b => .pointer (some ⟨b, 0, none⟩)) := ⟨fun M x cs h => by rw [h]; rfl⟩

/-! ### Lists of pairs -/
section pairs
variable {κ α : Type} [DecidableEq κ]
def getM (m : List (κ × α)) (k : κ) : Option α := (m.find? fun p => decide (p.1 = k)).map (·.2)
def delM (m : List (κ × α)) (k : κ) : List (κ × α) := m.filter fun p => !decide (p.1 = k)
def ND (m : List (κ × α)) : Prop := m.Pairwise fun p q => p.1 ≠ q.1
theorem getM_mem {m : List (κ × α)} {k : κ} {u : α} (h : getM m k = some u) : (k, u) ∈ m := by
  unfold getM at h
  cases e : m.find? fun p => decide (p.1 = k) with
  | none => rw [e] at h; cases h
  | some p =>
    rw [e] at h
    simp only [Option.map_some, Option.some.injEq] at h
    have h1 := List.mem_of_find?_eq_some e
    have h2 := List.find?_some e
    have h3 : p.1 = k := by simpa using h2
    obtain ⟨a, b⟩ := p
    simp only at h h3
    subst h; subst h3; exact h1
theorem getM_none {m : List (κ × α)} {k : κ} : getM m k = none ↔ ∀ p ∈ m, p.1 ≠ k := by
  unfold getM
  rw [Option.map_eq_none_iff, List.find?_eq_none]
  exact ⟨fun h p hp e => h p hp (by simpa using e), fun h p hp e => h p hp (by simpa using e)⟩
theorem nd_unique : ∀ {m : List (κ × α)} {k : κ} {u v : α}, ND m → (k, u) ∈ m → (k, v) ∈ m → u = v
  | [], _, _, _, _, h, _ => by cases h
  | p :: m, k, u, v, hn, h1, h2 => by
    obtain ⟨a, b⟩ := List.pairwise_cons.1 hn
    rcases List.mem_cons.1 h1 with h1 | h1 <;> rcases List.mem_cons.1 h2 with h2 | h2
    · rw [← h1] at h2; exact (congrArg Prod.snd h2).symm
    · exact absurd (by rw [← h1]) (a _ h2)
    · exact absurd (by rw [← h2]) (a _ h1)
    · exact nd_unique b h1 h2
theorem getM_of_mem {m : List (κ × α)} (hn : ND m) {k : κ} {u : α} (h : (k, u) ∈ m) : getM m k = some u := by
  cases e : getM m k with
  | none => exact absurd rfl (getM_none.1 e _ h)
  | some v => rw [nd_unique hn (getM_mem e) h]
theorem nd_perm {m m' : List (κ × α)} (h : m.Perm m') (hn : ND m) : ND m' := (h.pairwise_iff (fun {_ _} hne => Ne.symm hne)).1 hn
theorem del_none {m : List (κ × α)} {k : κ} (h : getM m k = none) : delM m k = m := List.filter_eq_self.2 fun p hp => by simpa using getM_none.1 h p hp
end pairs

/-! ### Entries -/
section
variable {κ α : Type} {K : KeyT κ} {R : Rep α} {ag : Bool}
def EntIs (K : KeyT κ) (R : Rep α) (ag : Bool) (M : Mem) (e : MapEntry) (p : κ × α) : Prop := e.key = K.enc p.1 ∧ K.ok p.1 ∧ ∃ cs, R.rep M p.2 cs ∧ e.val = wrapV ag cs
def Ents (K : KeyT κ) (R : Rep α) (ag : Bool) (M : Mem) (es : List MapEntry) (l : List (κ × α)) : Prop :=
  es.length = l.length ∧ ∀ (i : Nat) (e : MapEntry) (p : κ × α), es[i]? = some e → l[i]? = some p → EntIs K R ag M e p
theorem Ents.mono {M N : Mem} (hM : M.le N) {es : List MapEntry} {l : List (κ × α)} (h : Ents K R ag M es l) : Ents K R ag N es l :=
  ⟨h.1, fun i e p he hp => let ⟨a, b, cs, c, d⟩ := h.2 i e p he hp; ⟨a, b, cs, R.mono hM c, d⟩⟩
theorem Ents.at_ {M : Mem} {es : List MapEntry} {l : List (κ × α)} (h : Ents K R ag M es l) {i : Nat} {e : MapEntry} (he : es[i]? = some e) : ∃ p, l[i]? = some p ∧ EntIs K R ag M e p := by
  have hi := (List.getElem?_eq_some_iff.1 he).1
  obtain ⟨p, hp⟩ : ∃ p, l[i]? = some p := ⟨_, List.getElem?_eq_getElem (by rw [← h.1]; exact hi)⟩
  exact ⟨p, hp, h.2 i e p he hp⟩
theorem Ents.mem {M : Mem} {es : List MapEntry} {l : List (κ × α)} (h : Ents K R ag M es l) {e : MapEntry} (he : e ∈ es) : ∃ p ∈ l, EntIs K R ag M e p := by
  obtain ⟨i, hi⟩ := List.getElem?_of_mem he
  obtain ⟨p, hp, hr⟩ := h.at_ hi
  exact ⟨p, List.mem_of_getElem? hp, hr⟩
theorem Ents.mem' {M : Mem} {es : List MapEntry} {l : List (κ × α)} (h : Ents K R ag M es l) {p : κ × α} (hp : p ∈ l) : ∃ e ∈ es, EntIs K R ag M e p := by
  obtain ⟨i, hi⟩ := List.getElem?_of_mem hp
  have hil := (List.getElem?_eq_some_iff.1 hi).1
  obtain ⟨e, he⟩ : ∃ e, es[i]? = some e := ⟨_, List.getElem?_eq_getElem (by rw [h.1]; exact hil)⟩
  exact ⟨e, List.mem_of_getElem? he, h.2 i e p he hi⟩
theorem Ents.nd [DecidableEq κ] {M : Mem} {es : List MapEntry} {l : List (κ × α)} (h : Ents K R ag M es l) (hs : es.Pairwise fun x y => x.key ≠ y.key) : ND l := by
  rw [ND, List.pairwise_iff_getElem]
  intro i j hi hj hij e
  rw [List.pairwise_iff_getElem] at hs
  have hi' : i < es.length := by rw [h.1]; exact hi
  have hj' : j < es.length := by rw [h.1]; exact hj
  have h1 := h.2 i _ _ (List.getElem?_eq_getElem hi') (List.getElem?_eq_getElem hi)
  have h2 := h.2 j _ _ (List.getElem?_eq_getElem hj') (List.getElem?_eq_getElem hj)
  exact hs i j hi' hj' hij (by rw [h1.1, h2.1, e])
theorem Ents.push {M : Mem} {es : List MapEntry} {l : List (κ × α)} (h : Ents K R ag M es l) {e : MapEntry} {p : κ × α} (hp : EntIs K R ag M e p) : Ents K R ag M (es ++ [e]) (l ++ [p]) := by
  refine ⟨by simp [h.1], fun i e' p' he hp' => ?_⟩
  by_cases hi : i < es.length
  · rw [List.getElem?_append_left hi] at he
    rw [List.getElem?_append_left (by rw [← h.1]; exact hi)] at hp'
    exact h.2 i e' p' he hp'
  · rw [List.getElem?_append_right (by omega)] at he
    rw [List.getElem?_append_right (by have := h.1; omega)] at hp'
    have hz : i - es.length = 0 := by
      have := (List.getElem?_eq_some_iff.1 he).1
      simp at this; omega
    have hz2 : i - l.length = 0 := by have := h.1; omega
    rw [hz] at he; rw [hz2] at hp'
    simp at he hp'
    subst he; subst hp'; exact hp
theorem Ents.set {M : Mem} {es : List MapEntry} {l : List (κ × α)} (h : Ents K R ag M es l) {e : MapEntry} {p : κ × α} (j : Nat) (hp : EntIs K R ag M e p) : Ents K R ag M (es.set j e) (l.set j p) := by
  refine ⟨by simp [h.1], fun i e' p' he hp' => ?_⟩
  rw [List.getElem?_set] at he hp'
  by_cases hij : j = i
  · subst hij
    simp only [if_true] at he hp'
    split at he
    · cases he
      split at hp'
      · cases hp'; exact hp
      · cases hp'
    · cases he
  · rw [if_neg hij] at he hp'
    exact h.2 i e' p' he hp'
theorem Ents.erase {M : Mem} {es : List MapEntry} {l : List (κ × α)} (h : Ents K R ag M es l) (j : Nat) : Ents K R ag M (es.eraseIdx j) (l.eraseIdx j) := by
  refine ⟨by simp only [List.length_eraseIdx, h.1], fun i e' p' he hp' => ?_⟩
  rw [List.getElem?_eraseIdx] at he hp'
  by_cases hij : i < j
  · rw [if_pos hij] at he hp'; exact h.2 i e' p' he hp'
  · rw [if_neg hij] at he hp'; exact h.2 _ e' p' he hp'

/-! ### Maps of ours -/
def mapAt (K : KeyT κ) (R : Rep α) (ag : Bool) (M h : Mem) (b : Nat) (m : List (κ × α)) : Prop :=
  ∃ es clock l, h b = some (.map es clock) ∧ Stamped es clock ∧ l.Perm m ∧ Ents K R ag M es.toList l
def omap (K : KeyT κ) (R : Rep α) (ag : Bool) (b : Nat) (m : List (κ × α)) : HP :=
  ⟨fun M h => mapAt K R ag M h b m, fun hM hh ⟨es, c, l, h1, h2, h3, h4⟩ => ⟨es, c, l, hh _ _ h1, h2, h3, h4.mono hM⟩⟩
class FindM (L : List HP) (b : Nat) (κ : outParam Type) (α : outParam Type) (K : outParam (KeyT κ)) (R : outParam (Rep α)) (ag : outParam Bool) (m : outParam (List (κ × α))) (L' : outParam (List HP)) : Prop where
  g : Gives L (omap K R ag b m :: L')
instance findM_tail {p : HP} {L L' : List HP} {b : Nat} {κ α : Type} {K : KeyT κ} {R : Rep α} {ag : Bool} {m : List (κ × α)} [h : FindM L b κ α K R ag m L'] : FindM (p :: L) b κ α K R ag m (p :: L') := ⟨(Gives.cons p h.g).trans (Gives.swap p _ _)⟩
instance findM_head {L : List HP} {b : Nat} {κ α : Type} {K : KeyT κ} {R : Rep α} {ag : Bool} {m : List (κ × α)} : FindM (omap K R ag b m :: L) b κ α K R ag m L := ⟨Gives.refl _⟩
end
section
variable {r : Option Nat} {n : Nat} {P : Program} {ops : Array Oper} {rest : List Oper} {KK : St → Prop} {Q : Exit → St → Prop} {D : List Deferred} {E : Env} {L L' L0 : List HP} {d : Nat} {ty : TypeId} {pos : String} {af : Array Edge}
variable {κ α : Type} [DecidableEq κ] {K : KeyT κ} {R : Rep α} {ag : Bool} {b : Nat} {m : List (κ × α)}
/-- A new map. -/
theorem TL_makeMap {t kt et : TypeId} (K : KeyT κ) (R : Rep α) (ag : Bool) [ht : TyDesc P t (.map kt et)] (hd : Nat.blt d n = true) (h : ∀ b, TL r n P ops rest ⟨D, (d, .map (some b)) :: E, omap K R ag b [] :: L⟩ KK) :
    TL r n P ops (⟨some d, .makeMap t none, ty, pos, af, none⟩ :: rest) ⟨D, E, L⟩ KK :=
  TL_val rfl hd rfl (fun _ e => by cases e) fun W a w hh => ⟨_, w.alloc (.map #[] 0), omap K R ag w.heap.size [] :: L, by simp only [execOp, Instr.makeMap]; rfl,
    (hh.2.alloc _).gives fun M k ⟨h1, h2, hd, l1, l2, hp, hs⟩ => ⟨h1, h2, hd, l1, l2, ⟨#[], 0, [], hp, stamped_empty 0, List.Perm.refl _, ⟨rfl, fun i e p he => by simp at he⟩⟩, hs⟩, h _⟩
/-- What is found at a key. -/
theorem find_run {kt : TypeId} [hk : KeyOk P kt K] {k : κ} (hok : K.ok k) {M : Mem} {es : Array MapEntry} {clock : Nat} {l : List (κ × α)} (hst : Stamped es clock) (hp : l.Perm m) (he : Ents K R ag M es.toList l) (w : World) :
    (getM m k = none ∧ (Instr.findKey kt (K.enc k) es.toList).run P w = .ok none w ∧ ∀ e ∈ es.toList, e.key ≠ K.enc k) ∨
    ∃ j e u cs, getM m k = some u ∧ (Instr.findKey kt (K.enc k) es.toList).run P w = .ok (some (j, e.val)) w ∧ es.toList[j]? = some e ∧ e.key = K.enc k ∧ l[j]? = some (k, u) ∧ R.rep M u cs ∧ e.val = wrapV ag cs := by
  obtain ⟨lx, hlx⟩ := hk.key k hok
  have hnd := nd_perm hp (he.nd ((stamped_iff es clock).1 hst).2.2)
  rcases hk.law.find w hlx es.toList (fun e hem => by obtain ⟨p, _, h1, h2, _⟩ := he.mem hem; rw [h1]; exact hk.key _ h2) with ⟨h1, h2⟩ | ⟨j, e, h1, h2, h3⟩
  · refine .inl ⟨getM_none.2 fun p hpm e => ?_, h1, h2⟩
    obtain ⟨e', hem, q1, _⟩ := he.mem' (hp.mem_iff.2 hpm)
    exact h2 e' hem (by rw [q1, e])
  · obtain ⟨p, hpl, q1, q2, cs, q3, q4⟩ := he.at_ h2
    have hpk : p.1 = k := K.inj _ _ (by rw [← q1, h3])
    obtain ⟨pk, pu⟩ := p
    simp only at hpk; subst hpk
    exact .inr ⟨j, e, pu, cs, getM_of_mem hnd (hp.mem_iff.1 (List.mem_of_getElem? hpl)), h1, h2, h3, hpl, q3, q4⟩
theorem check_run {kt : TypeId} [hk : KeyOk P kt K] {k : κ} (hok : K.ok k) (em : Bool) (w : World) : (Instr.checkKey em 10000 kt (K.enc k)).run P w = .ok () w := by
  obtain ⟨lx, hlx⟩ := hk.key k hok
  exact hk.law.check w em hlx
theorem look_run {t kt et : TypeId} {z : Value} [ht : TyDesc P t (.map kt et)] [hk : KeyOk P kt K] [hz : TyZero P et z] {k : κ} (hok : K.ok k) (c : Bool) {W w : World} (hs : Sat W w (omap K R ag b m :: L)) :
    (getM m k = none ∧ (Instr.lookup t (.map (some b)) (K.enc k) c).run P w = .ok (if c then .tuple #[z, .bool false] else z) w) ∨
    ∃ u cs, getM m k = some u ∧ Sat W w (is R u cs :: omap K R ag b m :: L) ∧ (Instr.lookup t (.map (some b)) (K.enc k) c).run P w = .ok (if c then .tuple #[wrapV ag cs, .bool true] else wrapV ag cs) w := by
  obtain ⟨M, q, hd, hM, hq, h1, h2, hd', l1, l2, ⟨es, clock, l, hb, hst, hp, he⟩, hsep⟩ := hs.ex
  have hbw : w.heap[b]? = some (.map es clock) := hq _ _ (l1 _ _ hb)
  have hc := check_run (P := P) (kt := kt) hok es.isEmpty w
  rcases find_run (P := P) (kt := kt) hok hst hp he w with ⟨g1, g2, g3⟩ | ⟨j, e, u, cs, g1, g2, g3, g4, g5, g6, g7⟩
  · exact .inl ⟨g1, by cases c <;> simp [Instr.lookup, ht.run, MapKept.run_getObj_map hbw, hc, g2, hz.run, Result.andThen]⟩
  · refine .inr ⟨u, cs, g1, ⟨⟨M, q, hd, hM, hq, Mem.emp, q, Mem.emp_disj _, Mem.emp_le _, Mem.le_refl _, g6, h1, h2, hd', l1, l2, ⟨es, clock, l, hb, hst, hp, he⟩, hsep⟩, hs.os, hs.tape, hs.output, hs.size⟩, ?_⟩
    rw [← g7]
    cases c <;> simp [Instr.lookup, ht.run, MapKept.run_getObj_map hbw, hc, g2, hz.run, Result.andThen]
theorem TL_lookup {x y : Operand} {t kt et : TypeId} {z : Value} {k : κ} [ht : TyDesc P t (.map kt et)] [hf : FindM L b κ α K R ag m L0] [hk : KeyOk P kt K] [hz : TyZero P et z] (hd : Nat.blt d n = true) (hx : ev E x = some (.map (some b))) (hy : ev E y = some (K.enc k)) (hok : K.ok k)
    (h0 : getM m k = none → TL r n P ops rest ⟨D, (d, z) :: E, L⟩ KK) (h1 : ∀ u cs, getM m k = some u → TL r n P ops rest ⟨D, (d, wrapV ag cs) :: E, is R u cs :: omap K R ag b m :: L0⟩ KK) :
    TL r n P ops (⟨some d, .lookup t x y false, ty, pos, af, none⟩ :: rest) ⟨D, E, L⟩ KK :=
  TL_val rfl hd rfl (fun _ e => by cases e) fun W a w hh => by
    rcases look_run (P := P) (t := t) (kt := kt) (et := et) (z := z) hok false (hh.2.gives hf.g) with ⟨g1, g2⟩ | ⟨u, cs, g1, g2, g3⟩
    · exact ⟨z, w, L, by simp [execOp, hh.1.ev hx, hh.1.ev hy, g2], hh.2, h0 g1⟩
    · exact ⟨wrapV ag cs, w, _, by simp [execOp, hh.1.ev hx, hh.1.ev hy, g3], g2, h1 u cs g1⟩
theorem TL_lookup_ok {x y : Operand} {t kt et : TypeId} {z : Value} {k : κ} [ht : TyDesc P t (.map kt et)] [hf : FindM L b κ α K R ag m L0] [hk : KeyOk P kt K] [hz : TyZero P et z] (hd : Nat.blt d n = true) (hx : ev E x = some (.map (some b))) (hy : ev E y = some (K.enc k)) (hok : K.ok k)
    (h0 : getM m k = none → TL r n P ops rest ⟨D, (d, .tuple #[z, .bool false]) :: E, L⟩ KK) (h1 : ∀ u cs, getM m k = some u → TL r n P ops rest ⟨D, (d, .tuple #[wrapV ag cs, .bool true]) :: E, is R u cs :: omap K R ag b m :: L0⟩ KK) :
    TL r n P ops (⟨some d, .lookup t x y true, ty, pos, af, none⟩ :: rest) ⟨D, E, L⟩ KK :=
  TL_val rfl hd rfl (fun _ e => by cases e) fun W a w hh => by
    rcases look_run (P := P) (t := t) (kt := kt) (et := et) (z := z) hok true (hh.2.gives hf.g) with ⟨g1, g2⟩ | ⟨u, cs, g1, g2, g3⟩
    · exact ⟨.tuple #[z, .bool false], w, L, by simp [execOp, hh.1.ev hx, hh.1.ev hy, g2], hh.2, h0 g1⟩
    · exact ⟨.tuple #[wrapV ag cs, .bool true], w, _, by simp [execOp, hh.1.ev hx, hh.1.ev hy, g3], g2, h1 u cs g1⟩
def lookV (f : α → Value) (z : Value) : Option α → Value
  | none => z
  | some u => f u
abbrev entsP (K : KeyT κ) (R : Rep α) (ag : Bool) (es : List MapEntry) (l : List (κ × α)) : HP := pers (fun M => Ents K R ag M es l) (fun hM h => h.mono hM)
theorem omap_open {W w : World} (h : Sat W w (omap K R ag b m :: L)) : ∃ es clock l, Stamped es clock ∧ l.Perm m ∧ Sat W w (own b (.map es clock) :: entsP K R ag es.toList l :: L) := by
  obtain ⟨M, k, hd, hM, hk, h1, h2, hd', l1, l2, ⟨es, c, l, q1, q2, q3, q4⟩, hs⟩ := h.ex
  exact ⟨es, c, l, q2, q3, ⟨M, k, hd, hM, hk, h1, h2, hd', l1, l2, q1, Mem.emp, h2, Mem.emp_disj _, Mem.emp_le _, Mem.le_refl _, q4, hs⟩, h.os, h.tape, h.output, h.size⟩
theorem omap_close {es : Array MapEntry} {clock : Nat} {l : List (κ × α)} (h1 : Stamped es clock) (h2 : l.Perm m) : Gives (own b (.map es clock) :: entsP K R ag es.toList l :: L) (omap K R ag b m :: L) := fun M k ⟨g1, g2, gd, l1, l2, hp, g3, g4, gd', l3, l4, he, hs⟩ =>
  ⟨g1, g4, Mem.disj_le gd (Mem.le_refl _) l4, l1, Mem.le_trans l4 l2, ⟨es, clock, l, hp, h1, h2, he⟩, hs⟩
theorem sat_setBlock {W w : World} {x y : Obj} (h : Sat W w (own b x :: L)) : Sat W (setBlock w b y) (own b y :: L) := by
  have hb := h.own_at
  have hlt : b < w.heap.size := (Array.getElem?_eq_some_iff.1 hb).1
  exact Sat.set h (by simp [setBlock, hlt]) (fun i hi => by simp [setBlock, Array.getElem?_setIfInBounds_ne (Ne.symm hi)]) rfl rfl rfl (by simp [setBlock])
theorem delM_erase : ∀ {l : List (κ × α)} {j : Nat} {k : κ} {u : α}, ND l → l[j]? = some (k, u) → delM l k = l.eraseIdx j
  | [], j, k, u, _, h => by simp at h
  | p :: l, 0, k, u, hn, h => by
    simp at h; subst h
    obtain ⟨a, b⟩ := List.pairwise_cons.1 hn
    have : getM l k = none := getM_none.2 fun q hq e => a q hq e.symm
    have h2 := del_none this
    unfold delM at h2 ⊢
    rw [List.filter_cons_of_neg (by simp), h2]; simp
  | p :: l, j + 1, k, u, hn, h => by
    obtain ⟨a, b⟩ := List.pairwise_cons.1 hn
    have h' : l[j]? = some (k, u) := by simpa using h
    have hp : p.1 ≠ k := a _ (List.mem_of_getElem? h')
    have ih := delM_erase b h'
    unfold delM at ih ⊢
    rw [List.filter_cons_of_pos (by simp [hp]), ih]; simp
theorem set_perm : ∀ {l : List (κ × α)} {j : Nat} {p : κ × α}, j < l.length → (l.set j p).Perm (p :: l.eraseIdx j)
  | [], j, p, h => by simp at h
  | q :: l, 0, p, h => by simp
  | q :: l, j + 1, p, h => by
    simp only [List.set_cons_succ, List.eraseIdx_cons_succ]
    exact ((set_perm (by simpa using h)).cons q).trans (List.Perm.swap _ _ _)
theorem delM_perm {l m : List (κ × α)} (h : l.Perm m) (k : κ) : (delM l k).Perm (delM m k) := h.filter _
theorem upd_run {t kt et : TypeId} [ht : TyDesc P t (.map kt et)] [hk : KeyOk P kt K] {k : κ} (hok : K.ok k) {u : α} {cs : List Value} {m' : List (κ × α)} (hr : Knows L (fun M => R.rep M u cs)) (hm : ((k, u) :: delM m k).Perm m') {W w : World} (hs : Sat W w (omap K R ag b m :: L)) :
    ∃ w', (Instr.mapUpdate t (.map (some b)) (K.enc k) (wrapV ag cs)).run P w = .ok () w' ∧ Sat W w' (omap K R ag b m' :: L) := by
  obtain ⟨es, clock, l, hst, hp, hs1⟩ := omap_open hs
  have hbw : w.heap[b]? = some (.map es clock) := hs1.own_at
  obtain ⟨M, _, he⟩ := hs1.knows (φ := fun M => Ents K R ag M es.toList l) (Knows.tail Knows.head)
  have hnd : ND l := he.nd ((stamped_iff es clock).1 hst).2.2
  obtain ⟨lx, hlx⟩ := hk.key k hok
  have hc := check_run (P := P) (kt := kt) hok false w
  have hstay := hk.law.stays w hlx
  rcases find_run (P := P) (kt := kt) hok hst hp he w with ⟨g1, g2, g3⟩ | ⟨j, e, u0, cs0, g1, g2, g3, g4, g5, g6, g7⟩
  · refine ⟨setBlock w b (.map (es.push ⟨K.enc k, wrapV ag cs, clock⟩) (clock + 1)), ?_, (sat_setBlock hs1).gives (Gives.trans ?_ (omap_close (l := l ++ [(k, u)]) (stamped_push (val := wrapV ag cs) hst g3) ?_))⟩
    · simp [Instr.mapUpdate, ht.run, MapKept.run_getObj_map hbw, hc, g2, MapKept.run_setObj_map _ hbw, Result.andThen, setBlock]
    · intro N q ⟨a1, a2, ad, b1, b2, ho, a3, a4, ad', b3, b4, hen, hsep⟩
      refine ⟨a1, a2, ad, b1, b2, ho, a3, a4, ad', b3, b4, ?_, hsep⟩
      show Ents K R ag N (es.push ⟨K.enc k, wrapV ag cs, clock⟩).toList (l ++ [(k, u)])
      rw [Array.toList_push]
      exact Ents.push hen ⟨rfl, hok, cs, hr N a4 hsep, rfl⟩
    · refine List.Perm.trans ?_ hm
      rw [del_none g1]
      exact (List.perm_append_singleton _ _).trans (hp.cons _)
  · have hj : es[j]? = some e := by simpa using g3
    have hlist : (es.modify j (fun e' => { e' with key := K.enc k, val := wrapV ag cs })).toList = es.toList.set j { e with key := K.enc k, val := wrapV ag cs } := by rw [Array.toList_modify, ChangeMaps.modify_eq_set _ _ _ _ g3]
    refine ⟨setBlock w b (.map (es.modify j (fun e' => { e' with key := K.enc k, val := wrapV ag cs })) clock), ?_, (sat_setBlock hs1).gives (Gives.trans ?_ (omap_close (l := l.set j (k, u)) (stamped_modify hst j (fun e' => { e' with key := K.enc k, val := wrapV ag cs }) (fun _ _ => rfl) (fun e' _ he' => by rw [hj] at he'; cases he'; exact g4.symm)) ?_))⟩
    · simp [Instr.mapUpdate, ht.run, MapKept.run_getObj_map hbw, hc, g2, hj, g4, hstay, MapKept.run_setObj_map _ hbw, Result.andThen, setBlock]
    · intro N q ⟨a1, a2, ad, b1, b2, ho, a3, a4, ad', b3, b4, hen, hsep⟩
      refine ⟨a1, a2, ad, b1, b2, ho, a3, a4, ad', b3, b4, ?_, hsep⟩
      show Ents K R ag N (es.modify j _).toList (l.set j (k, u))
      rw [hlist]
      exact Ents.set hen j ⟨rfl, hok, cs, hr N a4 hsep, rfl⟩
    · refine List.Perm.trans ?_ hm
      refine (set_perm (List.getElem?_eq_some_iff.1 g5).1).trans (List.Perm.cons _ ?_)
      rw [← delM_erase hnd g5]
      exact delM_perm hp k
theorem TL_update {x y z : Operand} {t kt et : TypeId} {k : κ} {u : α} {cs : List Value} (m' : List (κ × α)) [ht : TyDesc P t (.map kt et)] [hf : FindM L b κ α K R ag m L0] [hk : KeyOk P kt K] (hx : ev E x = some (.map (some b))) (hy : ev E y = some (K.enc k)) (hz : ev E z = some (wrapV ag cs)) (hok : K.ok k) (hr : Knows L0 (fun M => R.rep M u cs)) (hm : ((k, u) :: delM m k).Perm m')
    (h : TL r n P ops rest ⟨D, E, omap K R ag b m' :: L0⟩ KK) : TL r n P ops (⟨none, .mapUpdate t x y z, ty, pos, af, none⟩ :: rest) ⟨D, E, L⟩ KK :=
  TL_skip rfl rfl (fun _ e => by cases e) fun W a w hh => by
    obtain ⟨w', hrun, hs⟩ := upd_run (P := P) (t := t) (kt := kt) (et := et) hok hr hm (hh.2.gives hf.g)
    exact ⟨.skip, w', _, by simp [execOp, hh.1.ev hx, hh.1.ev hy, hh.1.ev hz, hrun], .inl rfl, hs, h⟩
theorem del_run {t kt et ty0 : TypeId} [ht : TyDesc P t (.map kt et)] [hk : KeyOk P kt K] {k : κ} (hok : K.ok k) {W w : World} (hs : Sat W w (omap K R ag b m :: L)) (u : TypeId) :
    ∃ w', (Builtin.delete_ #[t, u] ty0 #[.map (some b), K.enc k]).run P w = .ok (.tuple #[]) w' ∧ Sat W w' (omap K R ag b (delM m k) :: L) := by
  obtain ⟨es, clock, l, hst, hp, hs1⟩ := omap_open hs
  have hbw : w.heap[b]? = some (.map es clock) := hs1.own_at
  obtain ⟨M, _, he⟩ := hs1.knows (φ := fun M => Ents K R ag M es.toList l) (Knows.tail Knows.head)
  have hnd : ND l := he.nd ((stamped_iff es clock).1 hst).2.2
  have hc := check_run (P := P) (kt := kt) hok es.isEmpty w
  rcases find_run (P := P) (kt := kt) hok hst hp he w with ⟨g1, g2, g3⟩ | ⟨j, e, u0, cs0, g1, g2, g3, g4, g5, g6, g7⟩
  · refine ⟨setBlock w b (.map es clock), ?_, (sat_setBlock hs1).gives (omap_close hst ?_)⟩
    · simp [Builtin.delete_, ht.run, MapKept.run_getObj_map hbw, hc, g2, MapKept.run_setObj_map _ hbw, Result.andThen, setBlock]
    · rw [del_none g1]; exact hp
  · have hjl : j < es.toList.length := (List.getElem?_eq_some_iff.1 g3).1
    have hjs : j < es.size := by simpa using hjl
    have hsub : (es.eraseIdxIfInBounds j).toList = es.toList.eraseIdx j := by
      unfold Array.eraseIdxIfInBounds
      rw [dif_pos hjs]
      simp
    refine ⟨setBlock w b (.map (es.eraseIdxIfInBounds j) clock), ?_, (sat_setBlock hs1).gives (Gives.trans ?_ (omap_close (l := l.eraseIdx j) (stamped_erase hst j) ?_))⟩
    · simp [Builtin.delete_, ht.run, MapKept.run_getObj_map hbw, hc, g2, MapKept.run_setObj_map _ hbw, Result.andThen, setBlock]
    · intro N q ⟨a1, a2, ad, b1, b2, ho, a3, a4, ad', b3, b4, hen, hsep⟩
      refine ⟨a1, a2, ad, b1, b2, ho, a3, a4, ad', b3, b4, ?_, hsep⟩
      show Ents K R ag N (es.eraseIdxIfInBounds j).toList (l.eraseIdx j)
      rw [hsub]
      exact Ents.erase hen j
    · rw [← delM_erase hnd g5]
      exact delM_perm hp k
theorem TL_delete0 {x y : Operand} {t kt et u : TypeId} {k : κ} [ht : TyDesc P t (.map kt et)] [hf : FindM L b κ α K R ag m L0] [hk : KeyOk P kt K] (hx : ev E x = some (.map (some b))) (hy : ev E y = some (K.enc k)) (hok : K.ok k)
    (h : TL r n P ops rest ⟨D, E, omap K R ag b (delM m k) :: L0⟩ KK) : TL r n P ops (⟨none, .call { callee := .builtin .delete, args := #[x, y], argTypes := #[t, u] }, ty, pos, af, none⟩ :: rest) ⟨D, E, L⟩ KK :=
  TL_skip rfl rfl (fun _ e => by cases e) fun W a w hh => by
    obtain ⟨w', hrun, hs⟩ := del_run (P := P) (t := t) (kt := kt) (et := et) (ty0 := ty) hok (hh.2.gives hf.g) u
    exact ⟨_, w', _, by simp [execOp, resolve, invoke, builtin, hh.1.ev hx, hh.1.ev hy, hrun]; rfl, .inr ⟨_, rfl⟩, hs, h⟩
theorem Y_len_map {x : Operand} {t kt et : TypeId} [ht : TyDesc P t (.map kt et)] [hf : FindM L b κ α K R ag m L0] (hx : ev E x = some (.map (some b))) : Yl P E L (.call { callee := .builtin .len, args := #[x], argTypes := #[t] }) ty (.int .i64 (m.length : Int)) := fun n D W a w dst pos af g ha hs => by
  obtain ⟨es, clock, l, hst, hp, hs1⟩ := omap_open (hs.gives hf.g)
  have hbw : w.heap[b]? = some (.map es clock) := hs1.own_at
  obtain ⟨M, _, he⟩ := hs1.knows (φ := fun M => Ents K R ag M es.toList l) (Knows.tail Knows.head)
  have : es.size = m.length := by have := he.1; rw [← hp.length_eq, ← this]; simp
  simp [execOp, resolve, invoke, builtin, Builtin.len_, ha.ev hx, ht.run, MapKept.run_getObj_map hbw, Result.andThen, goInt, this]
theorem EqIs.map_nil {t : TypeId} {kt et : TypeId} [ht : TyDesc P t (.map kt et)] {A : Option Nat} : EqIs P t (.map A) (.map none) (decide (A = none)) := fun d w => by
  cases A <;> simp [Op.equalIn, ht.run]

/-! ### Ranging over a map -/
theorem nodup_len : ∀ {n : Nat} {l : List Nat}, l.Nodup → (∀ x ∈ l, x < n) → l.length ≤ n
  | 0, l, _, h => by
    cases l with
    | nil => simp
    | cons x l => have := h x (by simp); omega
  | n + 1, l, hn, h => by
    by_cases hm : n ∈ l
    · have h1 : (l.erase n).length = l.length - 1 := List.length_erase_of_mem hm
      have h2 := nodup_len (n := n) (hn.erase n) (fun x hx => by
        have h3 := (hn.mem_erase_iff).1 hx
        have h4 := h x h3.2
        have h5 := h3.1
        omega)
      have h0 : 0 < l.length := List.length_pos_of_mem hm
      omega
    · have h2 := nodup_len (n := n) hn (fun x hx => by
        have h4 := h x hx
        have h5 : x ≠ n := fun e => hm (e ▸ hx)
        omega)
      omega
/-- The map b and an iterator over it; of m these came. -/
def mrangeAt (K : KeyT κ) (R : Rep α) (ag : Bool) (M h : Mem) (b it : Nat) (m done : List (κ × α)) : Prop :=
  ∃ (es : Array MapEntry) (clock : Nat) (l : List (κ × α)) (seen : Array Nat) (js : List Nat), h b = some (.map es clock) ∧ h it = some (.mapIter (some b) clock seen clock) ∧ it ≠ b ∧ Stamped es clock ∧ l.Perm m ∧ Ents K R ag M es.toList l ∧
    js.Nodup ∧ (∀ j ∈ js, j < l.length) ∧ seen.toList.map some = js.map (fun j => (es.toList[j]?).map (·.born)) ∧ done.map some = js.map (fun j => l[j]?)
def mrange (K : KeyT κ) (R : Rep α) (ag : Bool) (b it : Nat) (m done : List (κ × α)) : HP :=
  ⟨fun M h => mrangeAt K R ag M h b it m done, fun hM hh ⟨es, c, l, seen, js, h1, h2, h3, h4, h5, h6, h7⟩ => ⟨es, c, l, seen, js, hh _ _ h1, hh _ _ h2, h3, h4, h5, h6.mono hM, h7⟩⟩
class FindG (L : List HP) (it : Nat) (b : outParam Nat) (κ : outParam Type) (α : outParam Type) (K : outParam (KeyT κ)) (R : outParam (Rep α)) (ag : outParam Bool) (m : outParam (List (κ × α))) (done : outParam (List (κ × α))) (L' : outParam (List HP)) : Prop where
  g : Gives L (mrange K R ag b it m done :: L')
omit [DecidableEq κ] in
theorem findG_t {p : HP} {L L' : List HP} {b it : Nat} {κ α : Type} {K : KeyT κ} {R : Rep α} {ag : Bool} {m done : List (κ × α)} (h : FindG L it b κ α K R ag m done L') : FindG (p :: L) it b κ α K R ag m done (p :: L') := ⟨(Gives.cons p h.g).trans (Gives.swap p _ _)⟩
instance findG_tail {p : HP} {L L' : List HP} {b it : Nat} {κ α : Type} {K : KeyT κ} {R : Rep α} {ag : Bool} {m done : List (κ × α)} [h : FindG L it b κ α K R ag m done L'] : FindG (p :: L) it b κ α K R ag m done (p :: L') := findG_t h
instance findG_head {L : List HP} {b it : Nat} {κ α : Type} {K : KeyT κ} {R : Rep α} {ag : Bool} {m done : List (κ × α)} : FindG (mrange K R ag b it m done :: L) it b κ α K R ag m done L := ⟨Gives.refl _⟩
theorem TL_range {x : Operand} {t kt et : TypeId} [ht : TyDesc P t (.map kt et)] [hf : FindM L b κ α K R ag m L0] (hd : Nat.blt d n = true) (hx : ev E x = some (.map (some b))) (h : ∀ it, TL r n P ops rest ⟨D, (d, .pointer (some ⟨it, 0, none⟩)) :: E, mrange K R ag b it m [] :: L0⟩ KK) :
    TL r n P ops (⟨some d, .range t x, ty, pos, af, none⟩ :: rest) ⟨D, E, L⟩ KK :=
  TL_val rfl hd rfl (fun _ e => by cases e) fun W a w hh => by
    obtain ⟨es, clock, l, hst, hp, hs1⟩ := omap_open (hh.2.gives hf.g)
    have hbw : w.heap[b]? = some (.map es clock) := hs1.own_at
    have hrun := run_range_map (P := P) w t kt et b es clock ht.under hbw
    refine ⟨_, _, mrange K R ag b w.heap.size m [] :: L0, by simp [execOp, hh.1.ev hx, hrun], (hs1.alloc (.mapIter (some b) clock #[] clock)).gives fun M q ⟨a1, a2, ad, b1, b2, ho, a3, a4, ad', b3, b4, hb, a5, a6, ad2, b5, b6, he, hsep⟩ => ?_, h _⟩
    have hne : w.heap.size ≠ b := by have := (Array.getElem?_eq_some_iff.1 hbw).1; omega
    refine ⟨a1.join a3, a6, Mem.join_disj (Mem.disj_le ad (Mem.le_refl _) (Mem.le_trans b6 b4)) (Mem.disj_le ad' (Mem.le_refl _) b6), Mem.join_le b1 (Mem.le_trans b3 b2), Mem.le_trans b6 (Mem.le_trans b4 b2), ⟨es, clock, l, #[], [], ?_, ?_, hne, hst, hp, he, List.nodup_nil, fun j hj => by simp at hj, rfl, rfl⟩, hsep⟩
    · exact Mem.le_join_right (Mem.disj_le ad (Mem.le_refl _) b3) _ _ hb
    · exact Mem.le_join_left _ _ _ _ ho
/-- The step: all came; or another one comes. -/
theorem TL_next {x : Operand} {it : Nat} {done : List (κ × α)} [hf : FindG L it b κ α K R ag m done L0] (hd : Nat.blt d n = true) (hx : ev E x = some (.pointer (some ⟨it, 0, none⟩)))
    (h0 : done.Perm m → TL r n P ops rest ⟨D, (d, .tuple #[.bool false]) :: E, L⟩ KK)
    (h1 : ∀ p cs, p ∈ m → (∀ q ∈ done, q.1 ≠ p.1) → done.length < m.length → TL r n P ops rest ⟨D, (d, .tuple #[.bool true, K.enc p.1, wrapV ag cs]) :: E, mrange K R ag b it m (done ++ [p]) :: L0⟩ KK) :
    TL r n P ops (⟨some d, .next x false, ty, pos, af, none⟩ :: rest) ⟨D, E, L⟩ KK :=
  TL_val rfl hd rfl (fun _ e => by cases e) fun W a w hh => by
    obtain ⟨M, q, hd', hM, hq, a1, a2, ad, l1, l2, ⟨es, clock, l, seen, js, hb, hit, hne, hst, hp, he, hnj, hlj, hseen, hdone⟩, hsep⟩ := (hh.2.gives hf.g).ex
    have hbw : w.heap[b]? = some (.map es clock) := hq _ _ (l1 _ _ hb)
    have hiw : w.heap[it]? = some (.mapIter (some b) clock seen clock) := hq _ _ (l1 _ _ hit)
    have hst' := (stamped_iff es clock).1 hst
    have hnd : ND l := he.nd hst'.2.2
    -- an entry's number is among those that came just where its stamp is
    have hin : ∀ (j : Nat) (e : MapEntry), es.toList[j]? = some e → (seen.contains e.born = true ↔ j ∈ js) := fun j e hj => by
      rw [Array.contains_iff_mem, ← Array.mem_toList_iff]
      constructor
      · intro hmem
        have : some e.born ∈ seen.toList.map some := List.mem_map.2 ⟨_, hmem, rfl⟩
        rw [hseen] at this
        obtain ⟨j', hj', e2⟩ := List.mem_map.1 this
        have hj'l : j' < es.toList.length := by rw [he.1]; exact hlj j' hj'
        rw [List.getElem?_eq_getElem hj'l] at e2
        simp only [Option.map_some, Option.some.injEq] at e2
        have hnb := hst'.2.1
        rw [List.Nodup, List.pairwise_iff_getElem] at hnb
        have hjl := (List.getElem?_eq_some_iff.1 hj).1
        have hjj : j' = j := by
          refine Classical.byContradiction fun hne' => ?_
          rcases Nat.lt_or_gt_of_ne hne' with hlt | hlt
          · exact hnb j' j (by simpa using hj'l) (by simpa using hjl) hlt (by rw [List.getElem_map, List.getElem_map, e2, ← (List.getElem?_eq_some_iff.1 hj).2])
          · exact hnb j j' (by simpa using hjl) (by simpa using hj'l) hlt (by rw [List.getElem_map, List.getElem_map, e2, ← (List.getElem?_eq_some_iff.1 hj).2])
        rw [← hjj]; exact hj'
      · intro hj'
        have : (es.toList[j]?).map (·.born) ∈ js.map (fun j => (es.toList[j]?).map (·.born)) := List.mem_map.2 ⟨j, hj', rfl⟩
        rw [← hseen, hj] at this
        obtain ⟨x, hx, e2⟩ := List.mem_map.1 this
        simp only [Option.map_some, Option.some.injEq] at e2
        rw [← e2]; exact hx
    rcases run_next_at (P := P) w ty it b clock clock seen es clock hiw hbw hst.1 (Nat.le_refl _) with ⟨g0, grun⟩ | ⟨e, hel, w1, hal, grun⟩
    · refine ⟨.tuple #[.bool false], w, L, by simp [execOp, hh.1.ev hx, grun], hh.2, h0 ?_⟩
      have hall := all_seen es seen g0
      have hperm : js.Perm (List.range l.length) := (List.perm_ext_iff_of_nodup hnj List.nodup_range).2 fun j => ⟨fun hj => List.mem_range.2 (hlj j hj), fun hj => by
        have hjl : j < es.toList.length := by rw [he.1]; exact List.mem_range.1 hj
        exact (hin j _ (List.getElem?_eq_getElem hjl)).1 (hall _ (List.getElem_mem hjl))⟩
      have h2 := hperm.map (fun j => l[j]?)
      have h3 : (List.range l.length).map (fun j => l[j]?) = l.map some := by
        apply List.ext_getElem?
        intro i
        by_cases hi : i < l.length
        · simp [hi]
        · simp [hi]
      rw [h3, ← hdone] at h2
      have h4 := h2.filterMap id
      simp only [List.filterMap_map, Function.comp_def, id, List.filterMap_some] at h4
      exact h4.trans hp
    · obtain ⟨hem, hes⟩ := mem_left hel
      obtain ⟨j, hj⟩ := List.getElem?_of_mem hem
      obtain ⟨p, hpl, hrel⟩ := he.at_ hj
      have hjn : j ∉ js := fun h => by rw [(hin j e hj).2 h] at hes; cases hes
      obtain ⟨r1, r2, cs, r3, r4⟩ := hrel
      have hpd : ∀ q ∈ done, q.1 ≠ p.1 := fun q h => by
        have : some q ∈ done.map some := List.mem_map.2 ⟨_, h, rfl⟩
        rw [hdone] at this
        obtain ⟨j', hj', e2⟩ := List.mem_map.1 this
        have hjj : j' ≠ j := fun e => hjn (e ▸ hj')
        have hnd' := hnd
        rw [ND, List.pairwise_iff_getElem] at hnd'
        have u1 := List.getElem?_eq_some_iff.1 hpl
        have u2 := List.getElem?_eq_some_iff.1 e2
        rcases Nat.lt_or_gt_of_ne hjj with hlt | hlt
        · have := hnd' j' j u2.1 u1.1 hlt
          rw [u2.2, u1.2] at this; exact this
        · have := hnd' j j' u1.1 u2.1 hlt
          rw [u2.2, u1.2] at this; exact Ne.symm this
      refine ⟨.tuple #[.bool true, K.enc p.1, wrapV ag cs], setBlock w1 it (.mapIter (some b) clock (seen.push e.born) clock), mrange K R ag b it m (done ++ [p]) :: L0, by simp [execOp, hh.1.ev hx, grun, r1, r4], ?_, h1 p cs (hp.mem_iff.1 (List.mem_of_getElem? hpl)) hpd (by
        have e1 : done.length = js.length := by have := congrArg List.length hdone; simpa using this
        have := nodup_len (l := j :: js) (n := l.length) (List.nodup_cons.2 ⟨hjn, hnj⟩) (fun x hx => by rcases List.mem_cons.1 hx with rfl | hx; exact (List.getElem?_eq_some_iff.1 hpl).1; exact hlj x hx)
        rw [e1, ← hp.length_eq]; simp only [List.length_cons] at this; omega)⟩
      have hs1 : Sat W w (own it (.mapIter (some b) clock seen clock) :: own b (.map es clock) :: entsP K R ag es.toList l :: L0) := by
        refine ⟨⟨M, q, hd', hM, hq, Mem.one it (.mapIter (some b) clock seen clock), (Mem.one b (.map es clock)).join a2, ?_, Mem.one_le (l1 _ _ hit), Mem.join_le (Mem.one_le (l1 _ _ hb)) l2, Mem.one_self _ _, Mem.one b (.map es clock), a2, ?_, Mem.le_join_left _ _, Mem.le_join_right ?_, Mem.one_self _ _, Mem.emp, a2, Mem.emp_disj _, Mem.emp_le _, Mem.le_refl _, he, hsep⟩, hh.2.os, hh.2.tape, hh.2.output, hh.2.size⟩
        · intro i
          by_cases hi : i = it
          · right
            subst hi
            have : a2 i = none := by
              rcases ad i with h | h
              · rw [hit] at h; cases h
              · exact h
            simp [Mem.join, Mem.one, hne, this]
          · left; simp [Mem.one, hi]
        all_goals
          intro i
          by_cases hi : i = b
          · right
            subst hi
            rcases ad i with h | h
            · rw [hb] at h; cases h
            · exact h
          · left; simp [Mem.one, hi]
      have hs2 : Sat W w1 (own it (.mapIter (some b) clock seen clock) :: own b (.map es clock) :: entsP K R ag es.toList l :: L0) := by
        rcases hal with rfl | rfl
        · exact hs1
        · exact hs1.drew
      refine (sat_setBlock (y := .mapIter (some b) clock (seen.push e.born) clock) hs2).gives fun N k ⟨c1, c2, cd, m1, m2, hi1, c3, c4, cd', m3, m4, hb1, c5, c6, cd2, m5, m6, hen, hsp⟩ => ?_
      refine ⟨c1.join c3, c6, Mem.join_disj (Mem.disj_le cd (Mem.le_refl _) (Mem.le_trans m6 m4)) (Mem.disj_le cd' (Mem.le_refl _) m6), Mem.join_le m1 (Mem.le_trans m3 m2), Mem.le_trans m6 (Mem.le_trans m4 m2), ⟨es, clock, l, seen.push e.born, js ++ [j], Mem.le_join_right (Mem.disj_le cd (Mem.le_refl _) m3) _ _ hb1, Mem.le_join_left _ _ _ _ hi1, hne, hst, hp, hen, ?_, ?_, ?_, ?_⟩, hsp⟩
      · rw [List.nodup_append]
        exact ⟨hnj, by simp, fun x hx y hy => by simp at hy; subst hy; exact fun e => hjn (e ▸ hx)⟩
      · intro x hx
        rcases List.mem_append.1 hx with hx | hx
        · exact hlj x hx
        · simp at hx; subst hx; exact (List.getElem?_eq_some_iff.1 hpl).1
      · rw [Array.toList_push, List.map_append, List.map_append, hseen, List.map_singleton, List.map_singleton, hj]; rfl
      · rw [List.map_append, List.map_append, hdone]
        simp [hpl]
/-- What the step handed out, read again. -/
theorem TL_entry {x : Operand} {it : Nat} {done : List (κ × α)} {p : κ × α} [hf : FindG L it b κ α K R ag m (done ++ [p]) L0] (hd : Nat.blt d n = true) (hx : ev E x = some (.pointer (some ⟨it, 0, none⟩)))
    (h : ∀ cs, K.ok p.1 → TL r n P ops rest ⟨D, (d, .tuple #[K.enc p.1, wrapV ag cs]) :: E, is R p.2 cs :: mrange K R ag b it m (done ++ [p]) :: L0⟩ KK) :
    TL r n P ops (⟨some d, .entry x, ty, pos, af, none⟩ :: rest) ⟨D, E, L⟩ KK :=
  TL_val rfl hd rfl (fun _ e => by cases e) fun W a w hh => by
    have hs := hh.2.gives hf.g
    obtain ⟨M, q, hd', hM, hq, a1, a2, ad, l1, l2, hm, hsep⟩ := hs.ex
    have hm' := hm
    obtain ⟨es, clock, l, seen, js, hb, hit, hne, hst, hp, he, hnj, hlj, hseen, hdone⟩ := hm'
    have hbw : w.heap[b]? = some (.map es clock) := hq _ _ (l1 _ _ hb)
    have hiw : w.heap[it]? = some (.mapIter (some b) clock seen clock) := hq _ _ (l1 _ _ hit)
    have hst' := (stamped_iff es clock).1 hst
    rcases List.eq_nil_or_concat js with rfl | ⟨js', j, rfl⟩
    · simp at hdone
    · have hlen : done.length = js'.length := by have := congrArg List.length hdone; simp at this; exact this
      rw [List.concat_eq_append] at hseen hdone hlj
      have hpl : l[j]? = some p := by
        have h1 := congrArg List.getLast? hdone
        simpa using h1.symm
      obtain ⟨e, hje⟩ : ∃ e, es.toList[j]? = some e := ⟨_, List.getElem?_eq_getElem (by rw [he.1]; exact hlj j (by simp))⟩
      have hback : ∃ s0 : Array Nat, seen = s0.push e.born := by
        have h1 := congrArg List.getLast? hseen
        simp only [List.map_append, List.map_cons, List.map_nil, List.getLast?_append, List.getLast?_singleton, Option.some_or, hje, Option.map_some] at h1
        rcases List.eq_nil_or_concat seen.toList with h | ⟨t, y, h⟩
        · rw [h] at h1; simp at h1
        · rw [h] at h1
          simp at h1
          exact ⟨t.toArray, by rw [← Array.toArray_toList (xs := seen), h, ← h1]; simp⟩
      obtain ⟨s0, rfl⟩ := hback
      have hrun := run_entry_at (P := P) w it b clock s0 es clock e hiw hbw (List.mem_of_getElem? hje) hst'.2.1
      obtain ⟨r1, r2, cs, r3, r4⟩ := he.2 j e p hje hpl
      exact ⟨.tuple #[K.enc p.1, wrapV ag cs], w, is R p.2 cs :: mrange K R ag b it m (done ++ [p]) :: L0, by simp [execOp, hh.1.ev hx, hrun, r1, r4],
        ⟨⟨M, q, hd', hM, hq, Mem.emp, q, Mem.emp_disj _, Mem.emp_le _, Mem.le_refl _, r3, a1, a2, ad, l1, l2, hm, hsep⟩, hs.os, hs.tape, hs.output, hs.size⟩, h cs r2⟩
/-- The range is over: the map is as it was. -/
theorem mrange_end {it : Nat} {done : List (κ × α)} : Gives (mrange K R ag b it m done :: L) (omap K R ag b m :: L) := fun M k ⟨h1, h2, hd, l1, l2, ⟨es, clock, l, seen, js, hb, hit, hne, hst, hp, he, _⟩, hs⟩ => ⟨h1, h2, hd, l1, l2, ⟨es, clock, l, hb, hst, hp, he⟩, hs⟩
end
end Go.SL
set_option linter.unusedVariables false
set_option linter.unusedSimpArgs false
set_option linter.unusedSectionVars false
namespace Go.SL
open Go
/-- Assertions with a key: the one of key k is p; R: all else. -/
class FindK (L : List HP) (k : Nat) (p : outParam HP) (R : outParam (List HP)) : Prop where
  g : Gives L (p :: R)
instance findK_tail {q : HP} {L R : List HP} {k : Nat} {p : HP} [h : FindK L k p R] : FindK (q :: L) k p (q :: R) := ⟨(Gives.cons q h.g).trans (Gives.swap q _ R)⟩
theorem sep_append {M : Mem} {B : List HP} : ∀ {A : List HP} {h h1 h2 : Mem}, Sep A M h1 → Sep B M h2 → h1.disj h2 → h1.le h → h2.le h → Sep (A ++ B) M h
  | [], h, h1, h2, _, hb, _, _, l2 => Sep.mono (Mem.le_refl _) l2 hb
  | p :: A, h, h1, h2, ⟨a1, a2, ad, m1, m2, hp, hs⟩, hb, hd, l1, l2 => by
    refine ⟨a1, a2.join h2, ?_, Mem.le_trans m1 l1, Mem.join_le (Mem.le_trans m2 l1) l2, hp, sep_append (h := a2.join h2) hs hb (Mem.disj_le hd m2 (Mem.le_refl _)) (Mem.le_join_left _ _) (Mem.le_join_right (Mem.disj_le hd m2 (Mem.le_refl _)))⟩
    exact Mem.disj_symm (Mem.join_disj (Mem.disj_symm ad) (Mem.disj_symm (Mem.disj_le hd m1 (Mem.le_refl _))))
theorem sep_split {M : Mem} {B : List HP} : ∀ {A : List HP} {h : Mem}, Sep (A ++ B) M h → ∃ h1 h2, h1.disj h2 ∧ h1.le h ∧ h2.le h ∧ Sep A M h1 ∧ Sep B M h2
  | [], h, hs => ⟨Mem.emp, h, Mem.emp_disj _, Mem.emp_le _, Mem.le_refl _, trivial, hs⟩
  | p :: A, h, ⟨a1, a2, ad, m1, m2, hp, hs⟩ => by
    obtain ⟨b1, b2, bd, n1, n2, hA, hB⟩ := sep_split hs
    refine ⟨a1.join b1, b2, ?_, Mem.join_le m1 (Mem.le_trans n1 m2), Mem.le_trans n2 m2, ⟨a1, b1, Mem.disj_le ad (Mem.le_refl _) n1, Mem.le_join_left _ _, Mem.le_join_right (Mem.disj_le ad (Mem.le_refl _) n1), hp, hA⟩, hB⟩
    exact Mem.join_disj (Mem.disj_le ad (Mem.le_refl _) n2) bd
def exH {β : Type} (f : β → List HP) : HP := ⟨fun M h => ∃ x, Sep (f x) M h, fun hM hh ⟨x, h⟩ => ⟨x, Sep.mono hM hh h⟩⟩
theorem exH_close {β : Type} {f : β → List HP} {L : List HP} (x : β) : Gives (f x ++ L) (exH f :: L) := fun M h hs => by
  obtain ⟨h1, h2, hd, l1, l2, hA, hB⟩ := sep_split hs
  exact ⟨h1, h2, hd, l1, l2, ⟨x, hA⟩, hB⟩
theorem exH_open {β : Type} {f : β → List HP} {L : List HP} {W w : World} (h : Sat W w (exH f :: L)) : ∃ x, Sat W w (f x ++ L) := by
  obtain ⟨M, k, hd, hM, hk, h1, h2, hd', l1, l2, ⟨x, hx⟩, hs⟩ := h.ex
  exact ⟨x, ⟨M, k, hd, hM, hk, sep_append hx hs hd' l1 l2⟩, h.os, h.tape, h.output, h.size⟩
section
variable {r : Option Nat} {n : Nat} {P : Program} {ops : Array Oper} {rest : List Oper} {K : St → Prop} {Q : Exit → St → Prop} {D : List Deferred} {E : Env} {L L' : List HP} {d : Nat} {ty : TypeId} {pos : String} {af : Array Edge}
theorem TL_pullk (k : Nat) {p : HP} {R : List HP} [hf : FindK L k p R] (h : TL r n P ops rest ⟨D, E, p :: R⟩ K) : TL r n P ops rest ⟨D, E, L⟩ K := TL_gives hf.g h
theorem T_pullk (k : Nat) {p : HP} {R : List HP} {c : Code} [hf : FindK L k p R] (h : T r n P c ⟨D, E, p :: R⟩ Q) : T r n P c ⟨D, E, L⟩ Q := T_gives hf.g h
theorem TL_exH {β : Type} {f : β → List HP} (h : ∀ x, TL r n P ops rest ⟨D, E, f x ++ L⟩ K) : TL r n P ops rest ⟨D, E, exH f :: L⟩ K := fun W a w hh => by
  obtain ⟨x, hx⟩ := exH_open hh.2
  exact h x W a w ⟨hh.1, hx⟩
theorem T_exH {β : Type} {f : β → List HP} {c : Code} (h : ∀ x, T r n P c ⟨D, E, f x ++ L⟩ Q) : T r n P c ⟨D, E, exH f :: L⟩ Q := fun W a w hh => by
  obtain ⟨x, hx⟩ := exH_open hh.2
  exact h x W a w ⟨hh.1, hx⟩
end
end Go.SL
set_option linter.unusedVariables false
set_option linter.unusedSimpArgs false
namespace Go.SL
open Go Go.Proofs
structure EventD where
  dot : Int × Int
  deps : List Int
  cart : ByteArray
  epoch : Int
  sku : ByteArray
  qty : Int
  clears : Bool
structure MsgD where
  kind : Int
  frm : Int
  to_ : Int
  bal : Int × Int
  slot : Int
  en : EntryD
  voted : List VotedD
  seen : List Int
  events : List EventD
  time : Int
abbrev eventC (e : EventD) (p : Option Addr × Nat) : List Value := [.int .i64 e.dot.1, .int .i64 e.dot.2, .slice p.1 e.deps.length p.2, .string e.cart, .int .i64 e.epoch, .string e.sku, .int .i64 e.qty, .bool e.clears]
def eventOk (e : EventD) : Prop := intIn .i64 e.dot.1 ∧ intIn .i64 e.dot.2 ∧ e.deps.length ≤ 17592186043904 ∧ e.cart.size ≤ maxEl ∧ intIn .i64 e.epoch ∧ e.sku.size ≤ maxEl ∧ intIn .i64 e.qty
def eventR : Rep EventD := exR 8 eventC (fun e p => [sl (intR .i64) p.1 p.2 e.deps]) eventOk (fun _ _ => rfl) (fun _ _ => rfl)

/-! ### What is written -/
abbrev WS := List Int × Bool
def wNum (most n : Int) (s : WS) : WS := if n < 0 ∨ n > most then (s.1, true) else (s.1 ++ grp n.toNat, s.2)
def wName (t : ByteArray) (s : WS) : WS := let u := wNum 65536 (t.size : Int) (s.1, s.2 || !decide (isName t)); (u.1 ++ strBytes t, u.2)
def wTruth (b : Bool) (s : WS) : WS := wNum 1 (if b then 1 else 0) s
def lastZero (v : List Int) : Bool := decide (0 < v.length ∧ v[v.length - 1]? = some 0)
def wInts (v : List Int) (s : WS) : WS := v.foldl (fun s n => wNum 2147483647 n s) s
def wVec (v : List Int) (s : WS) : WS := wInts v (wNum 7 (v.length : Int) (s.1, s.2 || lastZero v))
def wBal (a : Int × Int) (s : WS) : WS := wNum 6 a.2 (wNum 2147483647 a.1 s)
def wSeal (x : OrderD) (s : WS) : WS := wVec x.cut (wNum 2147483647 x.epoch (wName x.cart (wName x.token s)))
def someSeal (x : OrderD) : Bool := decide (x.token ≠ emptyS) || decide (x.cart ≠ emptyS) || decide (x.epoch ≠ 0) || decide (0 < (x.cut.length : Int))
def wEntry (e : EntryD) (s : WS) : WS := let u := wTruth e.noop s; if e.noop = true then (u.1, u.2 || someSeal e.order) else wSeal e.order u
def wEvent (e : EventD) (s : WS) : WS := wTruth e.clears (wNum 1000 e.qty (wName e.sku (wNum 2147483647 e.epoch (wName e.cart (wVec e.deps (wNum 2147483647 e.dot.2 (wNum 6 e.dot.1 s)))))))
def wVoted (v : VotedD) (s : WS) : WS := wEntry v.en (wBal v.bal (wNum 2147483647 v.slot s))
def wVoteds (l : List VotedD) (s : WS) : WS := l.foldl (fun s v => wVoted v s) s
def wEvents (l : List EventD) (s : WS) : WS := l.foldl (fun s v => wEvent v s) s
def wMsg (m : MsgD) (s : WS) : WS := wNum 4611686018427387904 m.time (wEvents m.events (wNum 4096 (m.events.length : Int) (wVec m.seen (wVoteds m.voted (wNum 4096 (m.voted.length : Int)
  (wEntry m.en (wNum 2147483647 m.slot (wBal m.bal (wNum 6 m.to_ (wNum 6 m.frm (wNum 255 m.kind s)))))))))))

/-! ### How much is written -/
def cSeal (x : OrderD) : Nat := x.token.size + x.cart.size + 10 * x.cut.length + 60
def cEvent (e : EventD) : Nat := e.cart.size + e.sku.size + 10 * e.deps.length + 100
def cVoted (v : VotedD) : Nat := cSeal v.en.order + 50
def cVoteds (l : List VotedD) : Nat := (l.map cVoted).sum
def cEvents (l : List EventD) : Nat := (l.map cEvent).sum
def cMsg (m : MsgD) : Nat := cSeal m.en.order + cVoteds m.voted + 10 * m.seen.length + cEvents m.events + 200
theorem wNum_len (most n : Int) (s : WS) (hm : most ≤ 4611686018427387904) : s.1.length ≤ (wNum most n s).1.length ∧ (wNum most n s).1.length ≤ s.1.length + 10 := by
  unfold wNum; split
  · simp
  · have := grp_ten (x := n.toNat) (by omega)
    simp; omega
theorem wName_len (t : ByteArray) (s : WS) : s.1.length ≤ (wName t s).1.length ∧ (wName t s).1.length ≤ s.1.length + 10 + t.size := by
  have := wNum_len 65536 (t.size : Int) (s.1, s.2 || !decide (isName t)) (by decide)
  simp only [wName, List.length_append, strBytes_length]; simp only at this; omega
theorem wTruth_len (b : Bool) (s : WS) : s.1.length ≤ (wTruth b s).1.length ∧ (wTruth b s).1.length ≤ s.1.length + 10 := wNum_len _ _ s (by decide)
theorem wInts_len : ∀ (v : List Int) (s : WS), s.1.length ≤ (wInts v s).1.length ∧ (wInts v s).1.length ≤ s.1.length + 10 * v.length
  | [], s => by simp [wInts]
  | n :: v, s => by
    have h1 := wNum_len 2147483647 n s (by decide)
    have h2 := wInts_len v (wNum 2147483647 n s)
    simp only [wInts, List.foldl_cons, List.length_cons] at h2 ⊢; omega
theorem wVec_len (v : List Int) (s : WS) : s.1.length ≤ (wVec v s).1.length ∧ (wVec v s).1.length ≤ s.1.length + 10 + 10 * v.length := by
  have h1 := wNum_len 7 (v.length : Int) (s.1, s.2 || lastZero v) (by decide)
  have h2 := wInts_len v (wNum 7 (v.length : Int) (s.1, s.2 || lastZero v))
  unfold wVec; simp only at h1; omega
theorem wBal_len (a : Int × Int) (s : WS) : s.1.length ≤ (wBal a s).1.length ∧ (wBal a s).1.length ≤ s.1.length + 20 := by
  have h1 := wNum_len 2147483647 a.1 s (by decide)
  have h2 := wNum_len 6 a.2 (wNum 2147483647 a.1 s) (by decide)
  unfold wBal; omega
theorem wSeal_len (x : OrderD) (s : WS) : s.1.length ≤ (wSeal x s).1.length ∧ (wSeal x s).1.length ≤ s.1.length + (cSeal x - 20) := by
  have h1 := wName_len x.token s
  have h2 := wName_len x.cart (wName x.token s)
  have h3 := wNum_len 2147483647 x.epoch (wName x.cart (wName x.token s)) (by decide)
  have h4 := wVec_len x.cut (wNum 2147483647 x.epoch (wName x.cart (wName x.token s)))
  unfold wSeal cSeal; omega
theorem wEntry_len (e : EntryD) (s : WS) : s.1.length ≤ (wEntry e s).1.length ∧ (wEntry e s).1.length ≤ s.1.length + (cSeal e.order - 10) := by
  have h1 := wTruth_len e.noop s
  have h2 := wSeal_len e.order (wTruth e.noop s)
  unfold wEntry; simp only []
  split
  · simp only [cSeal]; omega
  · simp only [cSeal] at h2 ⊢; omega
theorem wEvent_len (e : EventD) (s : WS) : s.1.length ≤ (wEvent e s).1.length ∧ (wEvent e s).1.length ≤ s.1.length + (cEvent e - 20) := by
  have h1 := wNum_len 6 e.dot.1 s (by decide)
  have h2 := wNum_len 2147483647 e.dot.2 (wNum 6 e.dot.1 s) (by decide)
  have h3 := wVec_len e.deps (wNum 2147483647 e.dot.2 (wNum 6 e.dot.1 s))
  have h4 := wName_len e.cart (wVec e.deps (wNum 2147483647 e.dot.2 (wNum 6 e.dot.1 s)))
  have h5 := wNum_len 2147483647 e.epoch (wName e.cart (wVec e.deps (wNum 2147483647 e.dot.2 (wNum 6 e.dot.1 s)))) (by decide)
  have h6 := wName_len e.sku (wNum 2147483647 e.epoch (wName e.cart (wVec e.deps (wNum 2147483647 e.dot.2 (wNum 6 e.dot.1 s)))))
  have h7 := wNum_len 1000 e.qty (wName e.sku (wNum 2147483647 e.epoch (wName e.cart (wVec e.deps (wNum 2147483647 e.dot.2 (wNum 6 e.dot.1 s)))))) (by decide)
  have h8 := wTruth_len e.clears (wNum 1000 e.qty (wName e.sku (wNum 2147483647 e.epoch (wName e.cart (wVec e.deps (wNum 2147483647 e.dot.2 (wNum 6 e.dot.1 s)))))))
  unfold wEvent cEvent; omega
theorem wVoted_len (v : VotedD) (s : WS) : s.1.length ≤ (wVoted v s).1.length ∧ (wVoted v s).1.length ≤ s.1.length + (cVoted v - 10) := by
  have h1 := wNum_len 2147483647 v.slot s (by decide)
  have h2 := wBal_len v.bal (wNum 2147483647 v.slot s)
  have h3 := wEntry_len v.en (wBal v.bal (wNum 2147483647 v.slot s))
  unfold wVoted cVoted; simp only [cSeal] at h3 ⊢; omega
theorem wVoteds_len : ∀ (l : List VotedD) (s : WS), s.1.length ≤ (wVoteds l s).1.length ∧ (wVoteds l s).1.length ≤ s.1.length + cVoteds l
  | [], s => by simp [wVoteds, cVoteds]
  | v :: l, s => by
    have h1 := wVoted_len v s
    have h2 := wVoteds_len l (wVoted v s)
    simp only [wVoteds, List.foldl_cons, cVoteds, List.map_cons, List.sum_cons] at h2 ⊢; omega
theorem wEvents_len : ∀ (l : List EventD) (s : WS), s.1.length ≤ (wEvents l s).1.length ∧ (wEvents l s).1.length ≤ s.1.length + cEvents l
  | [], s => by simp [wEvents, cEvents]
  | v :: l, s => by
    have h1 := wEvent_len v s
    have h2 := wEvents_len l (wEvent v s)
    simp only [wEvents, List.foldl_cons, cEvents, List.map_cons, List.sum_cons] at h2 ⊢; omega

/-! ### The writer in memory -/
abbrev wrF (b : Nat) (s : WS) (p : Option Addr × Nat) : List HP := [cells b [.slice p.1 s.1.length p.2, .bool s.2] 205, osl (intR .u8) 5 p.1 p.2 s.1]
def wr (b : Nat) (s : WS) : HP := exH (wrF b s)
section
variable {r : Option Nat} {n : Nat} {P : Program} {ops : Array Oper} {rest : List Oper} {K : St → Prop} {Q : Exit → St → Prop} {D : List Deferred} {E : Env} {L L' : List HP} {b : Nat} {s : WS}
theorem T_wr {c : Code} (h : ∀ A c', T r n P c ⟨D, E, cells b [.slice A s.1.length c', .bool s.2] 205 :: osl (intR .u8) 5 A c' s.1 :: L⟩ Q) : T r n P c ⟨D, E, wr b s :: L⟩ Q := T_exH (f := wrF b s) fun p => h p.1 p.2
theorem TL_wr (h : ∀ A c', TL r n P ops rest ⟨D, E, cells b [.slice A s.1.length c', .bool s.2] 205 :: osl (intR .u8) 5 A c' s.1 :: L⟩ K) : TL r n P ops rest ⟨D, E, wr b s :: L⟩ K := TL_exH (f := wrF b s) fun p => h p.1 p.2
theorem wr_close {A : Option Addr} {c : Nat} : Gives (cells b [.slice A s.1.length c, .bool s.2] 205 :: osl (intR .u8) 5 A c s.1 :: L) (wr b s :: L) := exH_close (f := wrF b s) (A, c)
end
instance findK_wr {L : List HP} {b : Nat} {s : WS} : FindK (wr b s :: L) b (wr b s) L := ⟨Gives.refl _⟩
end Go.SL
set_option linter.unusedVariables false
set_option linter.unusedSimpArgs false
namespace Go.SL
open Go Go.Proofs
theorem u64_of {n : Int} (h0 : 0 ≤ n) (h1 : n < 18446744073709551616) : IntKind.u64.wrap n = ((n.toNat : Nat) : Int) := by
  rw [show n = ((n.toNat : Nat) : Int) by omega, Int.toNat_natCast, u64_small (by omega)]
theorem wnumber_spec {L : List HP} {b : Nat} {s : WS} (most n : Int) (hn : intIn .i64 n) (hm : most ≤ 4611686018427387904) (hb : s.1.length + 10 ≤ 140737488355328) : Fn Try.prog 147 #[.pointer (some ⟨b, 0, none⟩), .int .i64 n, .int .i64 most] (wr b s :: L) (fun v L' => v = .tuple #[] ∧ L' = wr b (wNum most n s) :: L) := by
  have hn := i64In hn
  refine Fn_enter Try.func147 rfl rfl rfl rfl ?_
  refine T_wr fun A c => ?_
  refine T_seq ?_
  refine T_region ?_
  refine TL_both 7 12 (n < 0 ∨ n > most) ?_ ?_
  · refine TL_y rfl rfl (Y_move rfl) ?_
    refine TL_y rfl rfl (Y_lt rfl rfl) ?_
    refine TL_y rfl rfl (Y_move rfl) ?_
    refine TL_splitd 8 rfl (fun h8 => ?_) (fun h8 => ?_)
    · refine TL_gskip rfl rfl rfl rfl ?_
      refine TL_gskip rfl rfl rfl rfl ?_
      refine TL_gskip rfl rfl rfl rfl ?_
      refine TL_y rfl rfl (Y_pick_t rfl rfl) ?_
      refine TL_chain_end rfl ?_ (by repeat (first | exact sub_refl | refine sub_ext rfl ?_)) GivesTo.g
      exact congrArg Value.bool (decide_eq_true (by omega)).symm
    · refine TL_grun rfl rfl ?_
      refine TL_y rfl rfl (Y_move rfl) ?_
      refine TL_grun rfl rfl ?_
      refine TL_y rfl rfl (Y_move rfl) ?_
      refine TL_grun rfl rfl ?_
      refine TL_y rfl rfl (Y_gt rfl rfl) ?_
      refine TL_y rfl rfl (Y_pick_f rfl rfl) ?_
      refine TL_chain_end rfl ?_ (by repeat (first | exact sub_refl | refine sub_ext rfl ?_)) GivesTo.g
      exact congrArg Value.bool (decide_eq_decide.2 (by omega))
  refine TL_nil ?_
  refine T_if rfl (fun h12 => ?_) (fun h12 => ?_)
  · have hw : wNum most n s = (s.1, true) := by rw [wNum, if_pos h12]
    refine T_region ?_
    refine TL_y rfl rfl (Y_move rfl) ?_
    refine TL_y rfl rfl (Y_nil_check rfl) ?_
    refine TL_y rfl rfl (Y_field_addr rfl) ?_
    refine TL_store rfl rfl rfl rfl rfl rfl ?_
    refine TL_nil ?_
    refine T_ret ?_
    refine thenS_ret ?_
    rw [hw]
    refine RetQ.gives (wr_close (s := (s.1, true))) ?_
    exact RetG_0 (.inl rfl) rfl GivesTo.g (⟨rfl, rfl⟩)
  · have hw : wNum most n s = (s.1 ++ grp n.toNat, s.2) := by rw [wNum, if_neg h12]
    have hg := grp_ten (x := n.toNat) (by omega)
    refine T_skip ?_
    refine thenS_normal ?_
    refine T_region_draw_last (cells b [.slice A s.1.length c, .bool s.2] 205 :: []) [0, 0, 2, 6, 14, 0, 32, 96, 254, 511, 1023, 2047] [11] [(0, true), (1, true), (2, true), (3, true), (4, true), (5, true), (6, true), (7, false), (8, false), (9, true), (10, true), (11, false)] (by kernel_rfl) (by decide +kernel) GivesTo.g ?_
    refine TF_y rfl rfl (Y_move rfl) ?_
    refine TF_y rfl rfl (Y_move rfl) ?_
    refine TF_y rfl rfl (Y_nil_check rfl) ?_
    refine TF_y rfl rfl (Y_field_addr rfl) ?_
    refine TF_y rfl rfl (Y_load rfl rfl) ?_
    refine TF_y rfl rfl (Y_move rfl) ?_
    refine TF_y rfl rfl (Y_conv rfl) ?_
    refine TF_name 22 (v' := .int .u64 ((n.toNat : Nat) : Int)) rfl (by rw [u64_of (by omega) (by omega)]) ?_
    refine TF_anchor rfl ?_
    refine TL_call rfl rfl (group_spec n.toNat (by omega) _) ?_
    rintro _ _ ⟨A23, c23, rfl, rfl⟩
    refine TL_freeze_osl ?_
    refine TF_end GivesTo.g ?_
    refine TF_anchor rfl ?_
    refine TL_append rfl rfl rfl rfl rfl slk (by (try simp only [List.length_append, List.length_cons, List.length_nil]); omega) ?_
    intro A24 c24
    refine TF_end GivesTo.g ?_
    refine TF_y rfl rfl (Y_nil_check rfl) ?_
    refine TF_y rfl rfl (Y_field_addr rfl) ?_
    refine TF_anchor rfl ?_
    refine TL_store rfl rfl rfl rfl rfl rfl ?_
    refine TF_end_tail rfl ?_
    refine TF_nil ?_
    rw [hw]
    refine RetQ.gives (wr_close (s := (s.1 ++ grp n.toNat, s.2))) ?_
    exact RetG_0 (.inr rfl) rfl GivesTo.g (⟨rfl, rfl⟩)
theorem wname_spec {L : List HP} {b : Nat} {s : WS} (t : ByteArray) (ht : t.size ≤ maxEl) (hb : s.1.length + 10 + t.size ≤ 140737488355328) : Fn Try.prog 175 #[.pointer (some ⟨b, 0, none⟩), .string t] (wr b s :: L) (fun v L' => v = .tuple #[] ∧ L' = wr b (wName t s) :: L) := by
  have hl := wNum_len 65536 (t.size : Int) (s.1, s.2 || !decide (isName t)) (by decide)
  simp only at hl
  refine Fn_enter Try.func175 rfl rfl rfl rfl ?_
  refine T_wr fun A c => ?_
  refine T_region ?_
  refine TL_y rfl rfl (Y_move rfl) ?_
  refine TL_y rfl rfl (Y_move rfl) ?_
  refine TL_y rfl rfl (Y_nil_check rfl) ?_
  refine TL_y rfl rfl (Y_field_addr rfl) ?_
  refine TL_y rfl rfl (Y_load rfl rfl) ?_
  refine TL_both 5 13 (s.2 = true ∨ ¬ isName t) ?_ ?_
  · refine TL_y rfl rfl (Y_move rfl) ?_
    refine TL_split 9 rfl (fun h9 => ?_) (fun h9 => ?_)
    · refine TL_gskip rfl rfl rfl rfl ?_
      refine TL_gskip rfl rfl rfl rfl ?_
      refine TL_gskip rfl rfl rfl rfl ?_
      refine TL_y rfl rfl (Y_pick_t rfl rfl) ?_
      refine TL_chain_end rfl ?_ (by repeat (first | exact sub_refl | refine sub_ext rfl ?_)) GivesTo.g
      exact congrArg Value.bool (decide_eq_true (by simp [*])).symm
    · refine TL_grun rfl rfl ?_
      refine TL_y rfl rfl (Y_move rfl) ?_
      refine TL_grun rfl rfl ?_
      refine TL_call rfl rfl (name_spec _ t ht) ?_
      rintro _ _ ⟨rfl, rfl⟩
      refine TL_grun rfl rfl ?_
      refine TL_y rfl rfl (Y_not_d rfl) ?_
      refine TL_y rfl rfl (Y_pick_f rfl rfl) ?_
      refine TL_chain_end rfl ?_ (by repeat (first | exact sub_refl | refine sub_ext rfl ?_)) GivesTo.g
      exact congrArg Value.bool (decide_eq_decide.2 (by simp [*]))
  refine TL_name 13 (v' := .bool (s.2 || !decide (isName t))) rfl (by cases s.2 <;> simp) ?_
  refine TL_y rfl rfl (Y_nil_check rfl) ?_
  refine TL_y rfl rfl (Y_field_addr rfl) ?_
  refine TL_store rfl rfl rfl rfl rfl rfl ?_
  refine TL_gives (wr_close (s := (s.1, s.2 || !decide (isName t)))) ?_
  refine TL_nil ?_
  refine T_region ?_
  refine TL_y rfl rfl (Y_move rfl) ?_
  refine TL_y rfl rfl (Y_move rfl) ?_
  refine TL_y rfl rfl (Y_len_str rfl) ?_
  refine TL_call rfl rfl (wnumber_spec 65536 (t.size : Int) (i64In_mk (by simp only [maxEl] at ht; omega)) (by decide) (by simp only; omega)) ?_
  rintro _ _ ⟨rfl, rfl⟩
  generalize hu : wNum 65536 (t.size : Int) (s.1, s.2 || !decide (isName t)) = u at *
  refine TL_nil ?_
  refine T_wr fun A2 c2 => ?_
  refine T_region_last ?_
  refine TL_y rfl rfl (Y_move rfl) ?_
  refine TL_y rfl rfl (Y_move rfl) ?_
  refine TL_y rfl rfl (Y_nil_check rfl) ?_
  refine TL_y rfl rfl (Y_field_addr rfl) ?_
  refine TL_y rfl rfl (Y_load rfl rfl) ?_
  refine TL_y rfl rfl (Y_move rfl) ?_
  refine TL_append_str rfl rfl rfl rfl (by (try simp only [List.length_append, List.length_cons, List.length_nil]); omega) ?_
  intro A26 c26
  refine TL_y rfl rfl (Y_nil_check rfl) ?_
  refine TL_y rfl rfl (Y_field_addr rfl) ?_
  refine TL_store rfl rfl rfl rfl rfl rfl ?_
  refine TL_nil ?_
  refine RetQ.gives (wr_close (s := (u.1 ++ strBytes t, u.2))) ?_
  rw [show (u.1 ++ strBytes t, u.2) = wName t s by rw [wName, hu]]
  exact RetG_0 (.inr rfl) rfl GivesTo.g (⟨rfl, rfl⟩)
theorem wtruth_spec {L : List HP} {b : Nat} {s : WS} (t : Bool) (hb : s.1.length + 10 ≤ 140737488355328) : Fn Try.prog 173 #[.pointer (some ⟨b, 0, none⟩), .bool t] (wr b s :: L) (fun v L' => v = .tuple #[] ∧ L' = wr b (wTruth t s) :: L) := by
  refine Fn_enter Try.func173 rfl rfl rfl rfl ?_
  refine T_seq ?_
  refine T_region ?_
  refine TL_y rfl rfl (Y_move rfl) ?_
  refine TL_nil ?_
  refine T_cond rfl (fun h4 => ?_) (fun h4 => ?_)
  · subst h4
    refine T_region ?_
    refine TL_y rfl rfl (Y_move rfl) ?_
    refine TL_call rfl rfl (wnumber_spec 1 1 (by decide) (by decide) hb) ?_
    rintro _ _ ⟨rfl, rfl⟩
    refine TL_nil ?_
    refine T_ret ?_
    refine thenS_ret ?_
    rw [show wNum 1 1 s = wTruth true s from rfl]
    exact RetG_0 (.inl rfl) rfl GivesTo.g (⟨rfl, rfl⟩)
  · subst h4
    refine T_skip ?_
    refine thenS_normal ?_
    refine T_region_last ?_
    refine TL_y rfl rfl (Y_move rfl) ?_
    refine TL_call rfl rfl (wnumber_spec 1 0 (by decide) (by decide) hb) ?_
    rintro _ _ ⟨rfl, rfl⟩
    refine TL_nil ?_
    rw [show wNum 1 0 s = wTruth false s from rfl]
    exact RetG_0 (.inr rfl) rfl GivesTo.g (⟨rfl, rfl⟩)
theorem wInts_next {v : List Int} {i : Nat} {n : Int} {s : WS} (h : v[i]? = some n) : wInts (v.take (i + 1)) s = wNum 2147483647 n (wInts (v.take i) s) := by
  rw [take_at h, wInts, List.foldl_append]; rfl
theorem wvector_spec {L : List HP} {b : Nat} {s : WS} {A : Option Addr} {c : Nat} {v : List Int} (hk : SlK L (intR .i64) A c v) (hb : s.1.length + 10 + 10 * v.length ≤ 140737488355328) : Fn Try.prog 151 #[.pointer (some ⟨b, 0, none⟩), .slice A v.length c] (wr b s :: L) (fun r L' => r = .tuple #[] ∧ L' = wr b (wVec v s) :: L) := by
  have hl := wNum_len 7 (v.length : Int) (s.1, s.2 || lastZero v) (by decide)
  simp only at hl
  refine Fn_enter Try.func151 rfl rfl rfl rfl ?_
  refine T_wr fun A1 c1 => ?_
  refine T_region ?_
  refine TL_y rfl rfl (Y_move rfl) ?_
  refine TL_y rfl rfl (Y_move rfl) ?_
  refine TL_y rfl rfl (Y_nil_check rfl) ?_
  refine TL_y rfl rfl (Y_field_addr rfl) ?_
  refine TL_y rfl rfl (Y_load rfl rfl) ?_
  refine TL_both 14 24 (s.2 = true ∨ lastZero v = true) ?_ ?_
  · refine TL_y rfl rfl (Y_move rfl) ?_
    refine TL_split 11 rfl (fun h11 => ?_) (fun h11 => ?_)
    · refine TL_gskip rfl rfl rfl rfl ?_
      refine TL_gskip rfl rfl rfl rfl ?_
      refine TL_gskip rfl rfl rfl rfl ?_
      refine TL_gskip rfl rfl rfl rfl ?_
      refine TL_gskip_u rfl rfl rfl ?_
      refine TL_gskip_u rfl rfl rfl ?_
      refine TL_gskip_u rfl rfl rfl ?_
      refine TL_gskip_u rfl rfl rfl ?_
      refine TL_gskip_u rfl rfl rfl ?_
      refine TL_gskip_u rfl rfl rfl ?_
      refine TL_gskip_u rfl rfl rfl ?_
      refine TL_gskip rfl rfl rfl rfl ?_
      refine TL_y rfl rfl (Y_pick_t rfl rfl) ?_
      refine TL_chain_end rfl ?_ (by repeat (first | exact sub_refl | refine sub_ext rfl ?_)) GivesTo.g
      exact congrArg Value.bool (decide_eq_true (by simp [*])).symm
    · refine TL_grun rfl rfl ?_
      refine TL_y rfl rfl (Y_move rfl) ?_
      refine TL_grun rfl rfl ?_
      refine TL_y rfl rfl (Y_len rfl) ?_
      refine TL_grun rfl rfl ?_
      refine TL_y rfl rfl (Y_gt rfl rfl) ?_
      refine TL_grun rfl rfl ?_
      refine TL_y rfl rfl (Y_move rfl) ?_
      refine TL_splitd 15 rfl (fun h15 => ?_) (fun h15 => ?_)
      · refine TL_grun rfl rfl ?_
        refine TL_y rfl rfl (Y_move rfl) ?_
        refine TL_grun rfl rfl ?_
        refine TL_y rfl rfl (Y_move rfl) ?_
        refine TL_grun rfl rfl ?_
        refine TL_y rfl rfl (Y_len rfl) ?_
        refine TL_grun rfl rfl ?_
        refine TL_y rfl rfl (Y_sub rfl rfl (by omega)) ?_
        refine TL_grun rfl rfl ?_
        obtain ⟨u, hu⟩ : ∃ u, v[v.length - 1]? = some u := ⟨_, List.getElem?_eq_getElem (by omega)⟩
        refine TL_name 19 (v' := .int .i64 ((v.length - 1 : Nat) : Int)) rfl (by congr 1; omega) ?_
        refine TL_index_int rfl rfl rfl hk.tail.tail hu ?_
        intro hi20 bi20 oi20
        refine TL_grun rfl rfl ?_
        refine TL_y rfl rfl (Y_load_row rfl rfl) ?_
        refine TL_grun rfl rfl ?_
        refine TL_y rfl rfl (Y_eq rfl rfl) ?_
        refine TL_grun rfl rfl ?_
        refine TL_y rfl rfl (Y_pick_t rfl rfl) ?_
        refine TL_y rfl rfl (Y_pick_f rfl rfl) ?_
        refine TL_chain_end rfl ?_ (by repeat (first | exact sub_refl | refine sub_ext rfl ?_)) GivesTo.g
        exact congrArg Value.bool (decide_eq_decide.2 (by simp [lastZero, hu, h11]; omega))
      · refine TL_gskip rfl rfl rfl rfl ?_
        refine TL_gskip rfl rfl rfl rfl ?_
        refine TL_gskip rfl rfl rfl rfl ?_
        refine TL_gskip rfl rfl rfl rfl ?_
        refine TL_gskip rfl rfl rfl rfl ?_
        refine TL_gskip rfl rfl rfl rfl ?_
        refine TL_gskip rfl rfl rfl rfl ?_
        refine TL_grun rfl rfl ?_
        refine TL_y rfl rfl (Y_pick_f rfl rfl) ?_
        refine TL_y rfl rfl (Y_pick_f rfl rfl) ?_
        refine TL_chain_end rfl ?_ (by repeat (first | exact sub_refl | refine sub_ext rfl ?_)) GivesTo.g
        exact congrArg Value.bool (decide_eq_false (by simp [lastZero, h11]; omega)).symm
  refine TL_name 24 (v' := .bool (s.2 || lastZero v)) rfl (by cases s.2 <;> simp) ?_
  refine TL_y rfl rfl (Y_nil_check rfl) ?_
  refine TL_y rfl rfl (Y_field_addr rfl) ?_
  refine TL_store rfl rfl rfl rfl rfl rfl ?_
  refine TL_gives (wr_close (s := (s.1, s.2 || lastZero v))) ?_
  refine TL_nil ?_
  refine T_region ?_
  refine TL_y rfl rfl (Y_move rfl) ?_
  refine TL_y rfl rfl (Y_move rfl) ?_
  refine TL_y rfl rfl (Y_len rfl) ?_
  refine TL_call rfl rfl (wnumber_spec 7 (v.length : Int) (i64In_mk (by omega)) (by decide) (by simp only; omega)) ?_
  rintro _ _ ⟨rfl, rfl⟩
  generalize hu : wNum 7 (v.length : Int) (s.1, s.2 || lastZero v) = u at *
  refine TL_nil ?_
  refine T_region ?_
  refine TL_y rfl rfl (Y_move rfl) ?_
  refine TL_y rfl rfl (Y_len rfl) ?_
  refine TL_y rfl rfl (Y_move rfl) ?_
  refine TL_nil ?_
  refine T_block ?_
  refine T_loopK (σ := Nat) [0, 31, 32] (fun i => i ≤ v.length) (fun i kv => (33, .int .i64 (i : Int)) :: kv) (fun i => wr b (wInts (v.take i) u) :: L) (fun i => v.length - i) (0) rfl (Nat.zero_le _) (GivesTo.g (L' := wr b u :: L)) (sub_cons rfl (sub_cons rfl (sub_cons rfl (sub_cons rfl (sub_nil))))) ?_
  intro i hi
  refine T_region ?_
  refine TL_y rfl rfl (Y_lt rfl rfl) ?_
  refine TL_nil ?_
  refine T_seq ?_
  refine T_if rfl (fun h34 => ?_) (fun h34 => ?_)
  · refine T_skip ?_
    refine thenS_normal ?_
    refine T_seq ?_
    refine T_block ?_
    refine T_region ?_
    obtain ⟨q, hq⟩ : ∃ q, v[i]? = some q := ⟨_, List.getElem?_eq_getElem (by omega)⟩
    have hil := wInts_len (v.take i) u
    rw [List.length_take, Nat.min_eq_left (by omega)] at hil
    have hnx := wInts_next (s := u) hq
    refine TL_index_int rfl rfl rfl hk.tail hq ?_
    intro hi35 bi35 oi35
    refine TL_y rfl rfl (Y_load_row rfl rfl) ?_
    refine TL_y rfl rfl (Y_assign rfl) ?_
    refine TL_nil ?_
    refine T_region_last ?_
    refine TL_y rfl rfl (Y_move rfl) ?_
    refine TL_y rfl rfl (Y_move rfl) ?_
    refine TL_pullk b ?_
    refine TL_call rfl rfl (wnumber_spec 2147483647 q hi35 (by decide) (by omega)) ?_
    rintro _ _ ⟨rfl, rfl⟩
    rw [← hnx]
    refine TL_nil ?_
    refine inB_normal ?_
    refine thenS_normal ?_
    refine T_region_last ?_
    refine TL_y rfl rfl (Y_add rfl rfl (by omega)) ?_
    refine TL_name 40 (v' := .int .i64 ((i + 1 : Nat) : Int)) rfl (rfl) ?_
    refine TL_y rfl rfl (Y_move rfl) ?_
    refine TL_nil ?_
    refine thenS_normal ?_
    exact ⟨i + 1, (by omega), by omega, holds_to (sub_cons rfl (sub_cons rfl (sub_cons rfl (sub_cons rfl (sub_nil))))) GivesTo.g⟩
  · refine T_exit ?_
    refine thenS_exit ?_
    refine thenS_exit ?_
    refine inB_hit ?_
    have e : v.take i = v := List.take_of_length_le (by omega)
    rw [e, show wInts v u = wVec v s by rw [wVec, hu]]
    exact RetG_0 (.inr rfl) rfl GivesTo.g (⟨rfl, rfl⟩)
theorem wballot_spec {L : List HP} {b : Nat} {s : WS} (a : Int × Int) (h1 : intIn .i64 a.1) (h2 : intIn .i64 a.2) (hb : s.1.length + 20 ≤ 140737488355328) : Fn Try.prog 148 #[.pointer (some ⟨b, 0, none⟩), .agg #[.int .i64 a.1, .int .i64 a.2]] (wr b s :: L) (fun v L' => v = .tuple #[] ∧ L' = wr b (wBal a s) :: L) := by
  have hl := wNum_len 2147483647 a.1 s (by decide)
  refine Fn_enter Try.func148 rfl rfl rfl rfl ?_
  refine T_region ?_
  refine TL_box rfl rfl rfl ?_
  intro b3
  refine TL_nil ?_
  refine T_region ?_
  refine TL_y rfl rfl (Y_move rfl) ?_
  refine TL_y rfl rfl (Y_field_addr rfl) ?_
  refine TL_y rfl rfl (Y_load rfl rfl) ?_
  refine TL_pullk b ?_
  refine TL_call rfl rfl (wnumber_spec 2147483647 a.1 h1 (by decide) (by omega)) ?_
  rintro _ _ ⟨rfl, rfl⟩
  refine TL_nil ?_
  refine T_region_last ?_
  refine TL_y rfl rfl (Y_move rfl) ?_
  refine TL_y rfl rfl (Y_field_addr rfl) ?_
  refine TL_y rfl rfl (Y_load rfl rfl) ?_
  refine TL_pullk b ?_
  refine TL_call rfl rfl (wnumber_spec 6 a.2 h2 (by decide) (by omega)) ?_
  rintro _ _ ⟨rfl, rfl⟩
  refine TL_nil ?_
  rw [← wBal]
  exact RetG_0 (.inr rfl) rfl GivesTo.g (⟨rfl, rfl⟩)
theorem wseal_spec {L : List HP} {b : Nat} {s : WS} {A : Option Addr} {c : Nat} (x : OrderD) (hx : orderOk' x) (hk : SlK L (intR .i64) A c x.cut) (hb : s.1.length + cSeal x ≤ 140737488355328) : Fn Try.prog 174 #[.pointer (some ⟨b, 0, none⟩), .agg (List.toArray (orderC x (A, c)))] (wr b s :: L) (fun v L' => v = .tuple #[] ∧ L' = wr b (wSeal x s) :: L) := by
  have h1 := wName_len x.token s
  have h2 := wName_len x.cart (wName x.token s)
  have h3 := wNum_len 2147483647 x.epoch (wName x.cart (wName x.token s)) (by decide)
  simp only [cSeal] at hb
  refine Fn_enter Try.func174 rfl rfl rfl rfl ?_
  refine T_region ?_
  refine TL_box rfl rfl rfl ?_
  intro b3
  refine TL_nil ?_
  refine T_region ?_
  refine TL_y rfl rfl (Y_move rfl) ?_
  refine TL_y rfl rfl (Y_field_addr rfl) ?_
  refine TL_y rfl rfl (Y_load rfl rfl) ?_
  refine TL_pullk b ?_
  refine TL_call rfl rfl (wname_spec x.token hx.1 (by omega)) ?_
  rintro _ _ ⟨rfl, rfl⟩
  refine TL_nil ?_
  refine T_region ?_
  refine TL_y rfl rfl (Y_move rfl) ?_
  refine TL_y rfl rfl (Y_field_addr rfl) ?_
  refine TL_y rfl rfl (Y_load rfl rfl) ?_
  refine TL_pullk b ?_
  refine TL_call rfl rfl (wname_spec x.cart hx.2.1 (by omega)) ?_
  rintro _ _ ⟨rfl, rfl⟩
  refine TL_nil ?_
  refine T_region ?_
  refine TL_y rfl rfl (Y_move rfl) ?_
  refine TL_y rfl rfl (Y_field_addr rfl) ?_
  refine TL_y rfl rfl (Y_load rfl rfl) ?_
  refine TL_pullk b ?_
  refine TL_call rfl rfl (wnumber_spec 2147483647 x.epoch hx.2.2.1 (by decide) (by omega)) ?_
  rintro _ _ ⟨rfl, rfl⟩
  refine TL_nil ?_
  refine T_region_last ?_
  refine TL_y rfl rfl (Y_move rfl) ?_
  refine TL_y rfl rfl (Y_field_addr rfl) ?_
  refine TL_y rfl rfl (Y_load rfl rfl) ?_
  refine TL_pullk b ?_
  refine TL_call rfl rfl (wvector_spec hk.tail (by omega)) ?_
  rintro _ _ ⟨rfl, rfl⟩
  refine TL_nil ?_
  rw [← wSeal]
  exact RetG_0 (.inr rfl) rfl GivesTo.g (⟨rfl, rfl⟩)
theorem wentry_spec {L : List HP} {b : Nat} {s : WS} {A : Option Addr} {c : Nat} (e : EntryD) (hx : orderOk' e.order) (hk : SlK L (intR .i64) A c e.order.cut) (hb : s.1.length + 10 + cSeal e.order ≤ 140737488355328) : Fn Try.prog 149 #[.pointer (some ⟨b, 0, none⟩), .agg (List.toArray (entryC e (A, c)))] (wr b s :: L) (fun v L' => v = .tuple #[] ∧ L' = wr b (wEntry e s) :: L) := by
  have h1 := wTruth_len e.noop s
  refine Fn_enter Try.func149 rfl rfl rfl rfl ?_
  refine T_region ?_
  refine TL_box rfl rfl rfl ?_
  intro b3
  refine TL_nil ?_
  refine T_region ?_
  refine TL_y rfl rfl (Y_move rfl) ?_
  refine TL_y rfl rfl (Y_field_addr rfl) ?_
  refine TL_y rfl rfl (Y_load rfl rfl) ?_
  refine TL_pullk b ?_
  refine TL_call rfl rfl (wtruth_spec e.noop (by omega)) ?_
  rintro _ _ ⟨rfl, rfl⟩
  generalize hu : wTruth e.noop s = u at *
  refine TL_nil ?_
  refine T_seq ?_
  refine T_region ?_
  refine TL_y rfl rfl (Y_field_addr rfl) ?_
  refine TL_y rfl rfl (Y_load rfl rfl) ?_
  refine TL_y rfl rfl (Y_not rfl) ?_
  refine TL_nil ?_
  refine T_cond rfl (fun h10 => ?_) (fun h10 => ?_)
  · have hw : wEntry e s = wSeal e.order u := by simp only [wEntry, hu]; rw [if_neg]; simpa using h10
    refine T_region ?_
    refine TL_y rfl rfl (Y_move rfl) ?_
    refine TL_y rfl rfl (Y_field_addr rfl) ?_
    refine TL_y rfl rfl (Y_load_agg rfl rfl) ?_
    refine TL_pullk b ?_
    refine TL_call rfl rfl (wseal_spec (s := u) e.order hx hk.tail (by omega)) ?_
    rintro _ _ ⟨rfl, rfl⟩
    refine TL_nil ?_
    refine T_ret ?_
    refine thenS_ret ?_
    rw [hw]
    exact RetG_0 (.inl rfl) rfl GivesTo.g (⟨rfl, rfl⟩)
  · have hw : wEntry e s = (u.1, u.2 || someSeal e.order) := by simp only [wEntry, hu]; rw [if_pos]; simpa using h10
    refine T_skip ?_
    refine thenS_normal ?_
    refine T_pullk b ?_
    refine T_wr fun A2 c2 => ?_
    refine T_region_last ?_
    refine TL_y rfl rfl (Y_move rfl) ?_
    refine TL_y rfl rfl (Y_move rfl) ?_
    refine TL_y rfl rfl (Y_nil_check rfl) ?_
    refine TL_y rfl rfl (Y_field_addr rfl) ?_
    refine TL_y rfl rfl (Y_load rfl rfl) ?_
    refine TL_both 25 44 (u.2 = true ∨ someSeal e.order = true) ?_ ?_
    · refine TL_y rfl rfl (Y_move rfl) ?_
      refine TL_split 20 rfl (fun h20 => ?_) (fun h20 => ?_)
      · refine TL_gskip rfl rfl rfl rfl ?_
        refine TL_gskip rfl rfl rfl rfl ?_
        refine TL_gskip rfl rfl rfl rfl ?_
        refine TL_gskip rfl rfl rfl rfl ?_
        refine TL_y rfl rfl (Y_pick_t rfl rfl) ?_
        refine TL_y rfl rfl (Y_move rfl) ?_
        refine TL_gskip rfl rfl rfl rfl ?_
        refine TL_gskip rfl rfl rfl rfl ?_
        refine TL_gskip rfl rfl rfl rfl ?_
        refine TL_gskip rfl rfl rfl rfl ?_
        refine TL_y rfl rfl (Y_pick_t rfl rfl) ?_
        refine TL_y rfl rfl (Y_move rfl) ?_
        refine TL_gskip rfl rfl rfl rfl ?_
        refine TL_gskip rfl rfl rfl rfl ?_
        refine TL_gskip rfl rfl rfl rfl ?_
        refine TL_gskip rfl rfl rfl rfl ?_
        refine TL_y rfl rfl (Y_pick_t rfl rfl) ?_
        refine TL_y rfl rfl (Y_move rfl) ?_
        refine TL_gskip rfl rfl rfl rfl ?_
        refine TL_gskip rfl rfl rfl rfl ?_
        refine TL_gskip rfl rfl rfl rfl ?_
        refine TL_gskip rfl rfl rfl rfl ?_
        refine TL_gskip rfl rfl rfl rfl ?_
        refine TL_y rfl rfl (Y_pick_t rfl rfl) ?_
        refine TL_chain_end rfl ?_ (by repeat (first | exact sub_refl | refine sub_ext rfl ?_)) GivesTo.g
        exact congrArg Value.bool (decide_eq_true (by simp [*, someSeal, emptyS])).symm
      · refine TL_grun rfl rfl ?_
        refine TL_y rfl rfl (Y_field_addr rfl) ?_
        refine TL_grun rfl rfl ?_
        refine TL_y rfl rfl (Y_field_addr rfl) ?_
        refine TL_grun rfl rfl ?_
        refine TL_y rfl rfl (Y_load rfl rfl) ?_
        refine TL_grun rfl rfl ?_
        refine TL_y rfl rfl (Y_str_ne rfl rfl) ?_
        refine TL_y rfl rfl (Y_pick_f rfl rfl) ?_
        refine TL_y rfl rfl (Y_move rfl) ?_
        refine TL_splitd 26 rfl (fun h26 => ?_) (fun h26 => ?_)
        · refine TL_gskip rfl rfl rfl rfl ?_
          refine TL_gskip rfl rfl rfl rfl ?_
          refine TL_gskip rfl rfl rfl rfl ?_
          refine TL_gskip rfl rfl rfl rfl ?_
          refine TL_y rfl rfl (Y_pick_t rfl rfl) ?_
          refine TL_y rfl rfl (Y_move rfl) ?_
          refine TL_gskip rfl rfl rfl rfl ?_
          refine TL_gskip rfl rfl rfl rfl ?_
          refine TL_gskip rfl rfl rfl rfl ?_
          refine TL_gskip rfl rfl rfl rfl ?_
          refine TL_y rfl rfl (Y_pick_t rfl rfl) ?_
          refine TL_y rfl rfl (Y_move rfl) ?_
          refine TL_gskip rfl rfl rfl rfl ?_
          refine TL_gskip rfl rfl rfl rfl ?_
          refine TL_gskip rfl rfl rfl rfl ?_
          refine TL_gskip rfl rfl rfl rfl ?_
          refine TL_gskip rfl rfl rfl rfl ?_
          refine TL_y rfl rfl (Y_pick_t rfl rfl) ?_
          refine TL_chain_end rfl ?_ (by repeat (first | exact sub_refl | refine sub_ext rfl ?_)) GivesTo.g
          exact congrArg Value.bool (decide_eq_true (by simp [*, someSeal, emptyS])).symm
        · refine TL_grun rfl rfl ?_
          refine TL_y rfl rfl (Y_field_addr rfl) ?_
          refine TL_grun rfl rfl ?_
          refine TL_y rfl rfl (Y_field_addr rfl) ?_
          refine TL_grun rfl rfl ?_
          refine TL_y rfl rfl (Y_load rfl rfl) ?_
          refine TL_grun rfl rfl ?_
          refine TL_y rfl rfl (Y_str_ne rfl rfl) ?_
          refine TL_y rfl rfl (Y_pick_f rfl rfl) ?_
          refine TL_y rfl rfl (Y_move rfl) ?_
          refine TL_splitd 32 rfl (fun h32 => ?_) (fun h32 => ?_)
          · refine TL_gskip rfl rfl rfl rfl ?_
            refine TL_gskip rfl rfl rfl rfl ?_
            refine TL_gskip rfl rfl rfl rfl ?_
            refine TL_gskip rfl rfl rfl rfl ?_
            refine TL_y rfl rfl (Y_pick_t rfl rfl) ?_
            refine TL_y rfl rfl (Y_move rfl) ?_
            refine TL_gskip rfl rfl rfl rfl ?_
            refine TL_gskip rfl rfl rfl rfl ?_
            refine TL_gskip rfl rfl rfl rfl ?_
            refine TL_gskip rfl rfl rfl rfl ?_
            refine TL_gskip rfl rfl rfl rfl ?_
            refine TL_y rfl rfl (Y_pick_t rfl rfl) ?_
            refine TL_chain_end rfl ?_ (by repeat (first | exact sub_refl | refine sub_ext rfl ?_)) GivesTo.g
            exact congrArg Value.bool (decide_eq_true (by simp [*, someSeal, emptyS])).symm
          · refine TL_grun rfl rfl ?_
            refine TL_y rfl rfl (Y_field_addr rfl) ?_
            refine TL_grun rfl rfl ?_
            refine TL_y rfl rfl (Y_field_addr rfl) ?_
            refine TL_grun rfl rfl ?_
            refine TL_y rfl rfl (Y_load rfl rfl) ?_
            refine TL_grun rfl rfl ?_
            refine TL_y rfl rfl (Y_ne rfl rfl) ?_
            refine TL_y rfl rfl (Y_pick_f rfl rfl) ?_
            refine TL_y rfl rfl (Y_move rfl) ?_
            refine TL_splitd 38 rfl (fun h38 => ?_) (fun h38 => ?_)
            · refine TL_gskip rfl rfl rfl rfl ?_
              refine TL_gskip rfl rfl rfl rfl ?_
              refine TL_gskip rfl rfl rfl rfl ?_
              refine TL_gskip rfl rfl rfl rfl ?_
              refine TL_gskip rfl rfl rfl rfl ?_
              refine TL_y rfl rfl (Y_pick_t rfl rfl) ?_
              refine TL_chain_end rfl ?_ (by repeat (first | exact sub_refl | refine sub_ext rfl ?_)) GivesTo.g
              exact congrArg Value.bool (decide_eq_true (by simp [*, someSeal, emptyS])).symm
            · refine TL_grun rfl rfl ?_
              refine TL_y rfl rfl (Y_field_addr rfl) ?_
              refine TL_grun rfl rfl ?_
              refine TL_y rfl rfl (Y_field_addr rfl) ?_
              refine TL_grun rfl rfl ?_
              refine TL_y rfl rfl (Y_load rfl rfl) ?_
              refine TL_grun rfl rfl ?_
              refine TL_y rfl rfl (Y_len rfl) ?_
              refine TL_grun rfl rfl ?_
              refine TL_y rfl rfl (Y_gt rfl rfl) ?_
              refine TL_y rfl rfl (Y_pick_f rfl rfl) ?_
              refine TL_chain_end rfl ?_ (by repeat (first | exact sub_refl | refine sub_ext rfl ?_)) GivesTo.g
              exact congrArg Value.bool (decide_eq_decide.2 (by simp [*, someSeal, emptyS]))
    refine TL_name 44 (v' := .bool (u.2 || someSeal e.order)) rfl (by cases u.2 <;> simp) ?_
    refine TL_y rfl rfl (Y_nil_check rfl) ?_
    refine TL_y rfl rfl (Y_field_addr rfl) ?_
    refine TL_store rfl rfl rfl rfl rfl rfl ?_
    refine TL_gives (wr_close (s := (u.1, u.2 || someSeal e.order))) ?_
    refine TL_nil ?_
    rw [hw]
    exact RetG_0 (.inr rfl) rfl GivesTo.g (⟨rfl, rfl⟩)
theorem wevent_spec {L : List HP} {b : Nat} {s : WS} {A : Option Addr} {c : Nat} (e : EventD) (hx : eventOk e) (hk : SlK L (intR .i64) A c e.deps) (hb : s.1.length + cEvent e ≤ 140737488355328) : Fn Try.prog 152 #[.pointer (some ⟨b, 0, none⟩), .agg (List.toArray (eventC e (A, c)))] (wr b s :: L) (fun v L' => v = .tuple #[] ∧ L' = wr b (wEvent e s) :: L) := by
  have h1 := wNum_len 6 e.dot.1 s (by decide)
  have h2 := wNum_len 2147483647 e.dot.2 (wNum 6 e.dot.1 s) (by decide)
  have h3 := wVec_len e.deps (wNum 2147483647 e.dot.2 (wNum 6 e.dot.1 s))
  have h4 := wName_len e.cart (wVec e.deps (wNum 2147483647 e.dot.2 (wNum 6 e.dot.1 s)))
  have h5 := wNum_len 2147483647 e.epoch (wName e.cart (wVec e.deps (wNum 2147483647 e.dot.2 (wNum 6 e.dot.1 s)))) (by decide)
  have h6 := wName_len e.sku (wNum 2147483647 e.epoch (wName e.cart (wVec e.deps (wNum 2147483647 e.dot.2 (wNum 6 e.dot.1 s)))))
  have h7 := wNum_len 1000 e.qty (wName e.sku (wNum 2147483647 e.epoch (wName e.cart (wVec e.deps (wNum 2147483647 e.dot.2 (wNum 6 e.dot.1 s)))))) (by decide)
  simp only [cEvent] at hb
  obtain ⟨q1, q2, q3, q4, q5, q6, q7⟩ := hx
  refine Fn_enter Try.func152 rfl rfl rfl rfl ?_
  refine T_region ?_
  refine TL_box rfl rfl rfl ?_
  intro b3
  refine TL_nil ?_
  refine T_region ?_
  refine TL_y rfl rfl (Y_move rfl) ?_
  refine TL_y rfl rfl (Y_field_addr rfl) ?_
  refine TL_y rfl rfl (Y_field_addr rfl) ?_
  refine TL_y rfl rfl (Y_load rfl rfl) ?_
  refine TL_pullk b ?_
  refine TL_call rfl rfl (wnumber_spec 6 e.dot.1 q1 (by decide) (by omega)) ?_
  rintro _ _ ⟨rfl, rfl⟩
  refine TL_nil ?_
  refine T_region ?_
  refine TL_y rfl rfl (Y_move rfl) ?_
  refine TL_y rfl rfl (Y_field_addr rfl) ?_
  refine TL_y rfl rfl (Y_field_addr rfl) ?_
  refine TL_y rfl rfl (Y_load rfl rfl) ?_
  refine TL_pullk b ?_
  refine TL_call rfl rfl (wnumber_spec 2147483647 e.dot.2 q2 (by decide) (by omega)) ?_
  rintro _ _ ⟨rfl, rfl⟩
  refine TL_nil ?_
  refine T_region ?_
  refine TL_y rfl rfl (Y_move rfl) ?_
  refine TL_y rfl rfl (Y_field_addr rfl) ?_
  refine TL_y rfl rfl (Y_load rfl rfl) ?_
  refine TL_pullk b ?_
  refine TL_call rfl rfl (wvector_spec hk.tail (by omega)) ?_
  rintro _ _ ⟨rfl, rfl⟩
  refine TL_nil ?_
  refine T_region ?_
  refine TL_y rfl rfl (Y_move rfl) ?_
  refine TL_y rfl rfl (Y_field_addr rfl) ?_
  refine TL_y rfl rfl (Y_load rfl rfl) ?_
  refine TL_pullk b ?_
  refine TL_call rfl rfl (wname_spec e.cart q4 (by omega)) ?_
  rintro _ _ ⟨rfl, rfl⟩
  refine TL_nil ?_
  refine T_region ?_
  refine TL_y rfl rfl (Y_move rfl) ?_
  refine TL_y rfl rfl (Y_field_addr rfl) ?_
  refine TL_y rfl rfl (Y_load rfl rfl) ?_
  refine TL_pullk b ?_
  refine TL_call rfl rfl (wnumber_spec 2147483647 e.epoch q5 (by decide) (by omega)) ?_
  rintro _ _ ⟨rfl, rfl⟩
  refine TL_nil ?_
  refine T_region ?_
  refine TL_y rfl rfl (Y_move rfl) ?_
  refine TL_y rfl rfl (Y_field_addr rfl) ?_
  refine TL_y rfl rfl (Y_load rfl rfl) ?_
  refine TL_pullk b ?_
  refine TL_call rfl rfl (wname_spec e.sku q6 (by omega)) ?_
  rintro _ _ ⟨rfl, rfl⟩
  refine TL_nil ?_
  refine T_region ?_
  refine TL_y rfl rfl (Y_move rfl) ?_
  refine TL_y rfl rfl (Y_field_addr rfl) ?_
  refine TL_y rfl rfl (Y_load rfl rfl) ?_
  refine TL_pullk b ?_
  refine TL_call rfl rfl (wnumber_spec 1000 e.qty q7 (by decide) (by omega)) ?_
  rintro _ _ ⟨rfl, rfl⟩
  refine TL_nil ?_
  refine T_region_last ?_
  refine TL_y rfl rfl (Y_move rfl) ?_
  refine TL_y rfl rfl (Y_field_addr rfl) ?_
  refine TL_y rfl rfl (Y_load rfl rfl) ?_
  refine TL_pullk b ?_
  refine TL_call rfl rfl (wtruth_spec e.clears (by omega)) ?_
  rintro _ _ ⟨rfl, rfl⟩
  refine TL_nil ?_
  rw [← wEvent]
  exact RetG_0 (.inr rfl) rfl GivesTo.g (⟨rfl, rfl⟩)
theorem wvoted_spec {L : List HP} {b : Nat} {s : WS} {A : Option Addr} {c : Nat} (v : VotedD) (hx : votedOk v) (hk : SlK L (intR .i64) A c v.en.order.cut) (hb : s.1.length + cVoted v ≤ 140737488355328) : Fn Try.prog 150 #[.pointer (some ⟨b, 0, none⟩), .agg (List.toArray (votedC v (A, c)))] (wr b s :: L) (fun r L' => r = .tuple #[] ∧ L' = wr b (wVoted v s) :: L) := by
  have h1 := wNum_len 2147483647 v.slot s (by decide)
  have h2 := wBal_len v.bal (wNum 2147483647 v.slot s)
  simp only [cVoted] at hb
  obtain ⟨q1, q2, q3, q4⟩ := hx
  refine Fn_enter Try.func150 rfl rfl rfl rfl ?_
  refine T_region ?_
  refine TL_box rfl rfl rfl ?_
  intro b3
  refine TL_nil ?_
  refine T_region ?_
  refine TL_y rfl rfl (Y_move rfl) ?_
  refine TL_y rfl rfl (Y_field_addr rfl) ?_
  refine TL_y rfl rfl (Y_load rfl rfl) ?_
  refine TL_pullk b ?_
  refine TL_call rfl rfl (wnumber_spec 2147483647 v.slot q1 (by decide) (by omega)) ?_
  rintro _ _ ⟨rfl, rfl⟩
  refine TL_nil ?_
  refine T_region ?_
  refine TL_y rfl rfl (Y_move rfl) ?_
  refine TL_y rfl rfl (Y_field_addr rfl) ?_
  refine TL_y rfl rfl (Y_load_agg rfl rfl) ?_
  refine TL_pullk b ?_
  refine TL_call rfl rfl (wballot_spec v.bal q2 q3 (by omega)) ?_
  rintro _ _ ⟨rfl, rfl⟩
  refine TL_nil ?_
  refine T_region_last ?_
  refine TL_y rfl rfl (Y_move rfl) ?_
  refine TL_y rfl rfl (Y_field_addr rfl) ?_
  refine TL_y rfl rfl (Y_load_agg rfl rfl) ?_
  refine TL_pullk b ?_
  refine TL_call rfl rfl (wentry_spec v.en q4 hk.tail (by omega)) ?_
  rintro _ _ ⟨rfl, rfl⟩
  refine TL_nil ?_
  rw [← wVoted]
  exact RetG_0 (.inr rfl) rfl GivesTo.g (⟨rfl, rfl⟩)
end Go.SL
set_option linter.unusedVariables false
set_option linter.unusedSimpArgs false
namespace Go.SL
open Go Go.Proofs
structure MsgP where
  cut : Option Addr × Nat
  voted : Option Addr × Nat
  seen : Option Addr × Nat
  events : Option Addr × Nat
abbrev msgC (m : MsgD) (p : MsgP) : List Value := [.int .i64 m.kind, .int .i64 m.frm, .int .i64 m.to_, .int .i64 m.bal.1, .int .i64 m.bal.2, .int .i64 m.slot, .bool m.en.noop, .string m.en.order.token, .string m.en.order.cart, .int .i64 m.en.order.epoch, .slice p.cut.1 m.en.order.cut.length p.cut.2,
  .slice p.voted.1 m.voted.length p.voted.2, .slice p.seen.1 m.seen.length p.seen.2, .slice p.events.1 m.events.length p.events.2, .int .i64 m.time]
structure MsgK (L : List HP) (m : MsgD) (p : MsgP) : Prop where
  cut : SlK L (intR .i64) p.cut.1 p.cut.2 m.en.order.cut
  voted : SlK L votedR p.voted.1 p.voted.2 m.voted
  seen : SlK L (intR .i64) p.seen.1 p.seen.2 m.seen
  events : SlK L eventR p.events.1 p.events.2 m.events
structure MsgOk (m : MsgD) : Prop where
  kind : intIn .i64 m.kind
  frm : intIn .i64 m.frm
  to_ : intIn .i64 m.to_
  b1 : intIn .i64 m.bal.1
  b2 : intIn .i64 m.bal.2
  slot : intIn .i64 m.slot
  en : orderOk' m.en.order
  time : intIn .i64 m.time
theorem MsgK.tail {p0 : HP} {L : List HP} {m : MsgD} {p : MsgP} (h : MsgK L m p) : MsgK (p0 :: L) m p := ⟨h.cut.tail, h.voted.tail, h.seen.tail, h.events.tail⟩
theorem wVoteds_next {v : List VotedD} {i : Nat} {n : VotedD} {s : WS} (h : v[i]? = some n) : wVoteds (v.take (i + 1)) s = wVoted n (wVoteds (v.take i) s) := by
  rw [take_at h, wVoteds, List.foldl_append]; rfl
theorem wEvents_next {v : List EventD} {i : Nat} {n : EventD} {s : WS} (h : v[i]? = some n) : wEvents (v.take (i + 1)) s = wEvent n (wEvents (v.take i) s) := by
  rw [take_at h, wEvents, List.foldl_append]; rfl
theorem sum_split {α : Type} (f : α → Nat) {l : List α} {i : Nat} {x : α} (h : l[i]? = some x) : ((l.take i).map f).sum + f x ≤ (l.map f).sum := by
  have h1 : l = l.take i ++ x :: l.drop (i + 1) := by rw [← drop_at h, List.take_append_drop]
  have h2 : (l.map f).sum = ((l.take i ++ x :: l.drop (i + 1)).map f).sum := by rw [← h1]
  rw [h2]; simp only [List.map_append, List.map_cons, List.sum_append, List.sum_cons]; omega
set_option maxRecDepth 10000 in
theorem wmsg_spec {L : List HP} {b : Nat} {s : WS} (m : MsgD) (p : MsgP) (hx : MsgOk m) (hk : MsgK L m p) (hb : s.1.length + cMsg m ≤ 140737488355328) : Fn Try.prog 112 #[.pointer (some ⟨b, 0, none⟩), .agg (List.toArray (msgC m p))] (wr b s :: L) (fun v L' => v = .tuple #[] ∧ L' = wr b (wMsg m s) :: L) := by
  have h1 := wNum_len 255 m.kind s (by decide)
  have h2 := wNum_len 6 m.frm (wNum 255 m.kind s) (by decide)
  have h3 := wNum_len 6 m.to_ (wNum 6 m.frm (wNum 255 m.kind s)) (by decide)
  have h4 := wBal_len m.bal (wNum 6 m.to_ (wNum 6 m.frm (wNum 255 m.kind s)))
  have h5 := wNum_len 2147483647 m.slot (wBal m.bal (wNum 6 m.to_ (wNum 6 m.frm (wNum 255 m.kind s)))) (by decide)
  have h6 := wEntry_len m.en (wNum 2147483647 m.slot (wBal m.bal (wNum 6 m.to_ (wNum 6 m.frm (wNum 255 m.kind s)))))
  generalize hu : wEntry m.en (wNum 2147483647 m.slot (wBal m.bal (wNum 6 m.to_ (wNum 6 m.frm (wNum 255 m.kind s))))) = u at h6
  have h7 := wNum_len 4096 (m.voted.length : Int) u (by decide)
  generalize hu2 : wNum 4096 (m.voted.length : Int) u = u2 at h7
  have h8 := wVoteds_len m.voted u2
  have h9 := wVec_len m.seen (wVoteds m.voted u2)
  have h10 := wNum_len 4096 (m.events.length : Int) (wVec m.seen (wVoteds m.voted u2)) (by decide)
  generalize hu3 : wNum 4096 (m.events.length : Int) (wVec m.seen (wVoteds m.voted u2)) = u3 at h10
  have h11 := wEvents_len m.events u3
  have hfin : wMsg m s = wNum 4611686018427387904 m.time (wEvents m.events u3) := by rw [← hu3, ← hu2, ← hu]; rfl
  have cs : cSeal m.en.order = m.en.order.token.size + m.en.order.cart.size + 10 * m.en.order.cut.length + 60 := rfl
  simp only [cMsg] at hb
  refine Fn_enter Try.func112 rfl rfl rfl rfl ?_
  refine hk.voted.tail.lens fun hl1 => ?_
  refine hk.events.tail.lens fun hl2 => ?_
  simp only [maxEl] at hl1 hl2
  refine T_region ?_
  refine TL_box rfl rfl rfl ?_
  intro b3
  refine TL_nil ?_
  refine T_region ?_
  refine TL_y rfl rfl (Y_move rfl) ?_
  refine TL_y rfl rfl (Y_field_addr rfl) ?_
  refine TL_y rfl rfl (Y_load rfl rfl) ?_
  refine TL_pullk b ?_
  refine TL_call rfl rfl (wnumber_spec 255 m.kind hx.kind (by decide) (by omega)) ?_
  rintro _ _ ⟨rfl, rfl⟩
  refine TL_nil ?_
  refine T_region ?_
  refine TL_y rfl rfl (Y_move rfl) ?_
  refine TL_y rfl rfl (Y_field_addr rfl) ?_
  refine TL_y rfl rfl (Y_load rfl rfl) ?_
  refine TL_pullk b ?_
  refine TL_call rfl rfl (wnumber_spec 6 m.frm hx.frm (by decide) (by omega)) ?_
  rintro _ _ ⟨rfl, rfl⟩
  refine TL_nil ?_
  refine T_region ?_
  refine TL_y rfl rfl (Y_move rfl) ?_
  refine TL_y rfl rfl (Y_field_addr rfl) ?_
  refine TL_y rfl rfl (Y_load rfl rfl) ?_
  refine TL_pullk b ?_
  refine TL_call rfl rfl (wnumber_spec 6 m.to_ hx.to_ (by decide) (by omega)) ?_
  rintro _ _ ⟨rfl, rfl⟩
  refine TL_nil ?_
  refine T_region ?_
  refine TL_y rfl rfl (Y_move rfl) ?_
  refine TL_y rfl rfl (Y_field_addr rfl) ?_
  refine TL_y rfl rfl (Y_load_agg rfl rfl) ?_
  refine TL_pullk b ?_
  refine TL_call rfl rfl (wballot_spec m.bal hx.b1 hx.b2 (by omega)) ?_
  rintro _ _ ⟨rfl, rfl⟩
  refine TL_nil ?_
  refine T_region ?_
  refine TL_y rfl rfl (Y_move rfl) ?_
  refine TL_y rfl rfl (Y_field_addr rfl) ?_
  refine TL_y rfl rfl (Y_load rfl rfl) ?_
  refine TL_pullk b ?_
  refine TL_call rfl rfl (wnumber_spec 2147483647 m.slot hx.slot (by decide) (by omega)) ?_
  rintro _ _ ⟨rfl, rfl⟩
  refine TL_nil ?_
  refine T_region ?_
  refine TL_y rfl rfl (Y_move rfl) ?_
  refine TL_y rfl rfl (Y_field_addr rfl) ?_
  refine TL_y rfl rfl (Y_load_agg rfl rfl) ?_
  refine TL_pullk b ?_
  refine TL_call rfl rfl (wentry_spec m.en hx.en hk.cut.tail (by omega)) ?_
  rintro _ _ ⟨rfl, rfl⟩
  rw [hu]
  refine TL_nil ?_
  refine T_region ?_
  refine TL_y rfl rfl (Y_move rfl) ?_
  refine TL_y rfl rfl (Y_field_addr rfl) ?_
  refine TL_y rfl rfl (Y_load rfl rfl) ?_
  refine TL_y rfl rfl (Y_len rfl) ?_
  refine TL_pullk b ?_
  refine TL_call rfl rfl (wnumber_spec 4096 (m.voted.length : Int) (i64In_mk (by omega)) (by decide) (by omega)) ?_
  rintro _ _ ⟨rfl, rfl⟩
  rw [hu2]
  refine TL_nil ?_
  refine T_seq ?_
  refine T_region ?_
  refine TL_y rfl rfl (Y_field_addr rfl) ?_
  refine TL_y rfl rfl (Y_load rfl rfl) ?_
  refine TL_y rfl rfl (Y_len rfl) ?_
  refine TL_y rfl rfl (Y_move rfl) ?_
  refine TL_nil ?_
  refine T_block ?_
  refine T_loopK (σ := Nat) [0, 3, 38, 39] (fun i => i ≤ m.voted.length) (fun i kv => (40, .int .i64 (i : Int)) :: kv) (fun i => wr b (wVoteds (m.voted.take i) u2) :: cells b3 (msgC m p) 44 :: L) (fun i => m.voted.length - i) (0) rfl (Nat.zero_le _) (GivesTo.g (L' := wr b u2 :: cells b3 (msgC m p) 44 :: L)) (sub_cons rfl (sub_cons rfl (sub_cons rfl (sub_cons rfl (sub_cons rfl (sub_nil)))))) ?_
  intro i hi
  refine T_region ?_
  refine TL_y rfl rfl (Y_lt rfl rfl) ?_
  refine TL_nil ?_
  refine T_seq ?_
  refine T_if rfl (fun h41 => ?_) (fun h41 => ?_)
  · refine T_skip ?_
    refine thenS_normal ?_
    refine T_seq ?_
    refine T_block ?_
    refine T_region ?_
    obtain ⟨q, hq⟩ : ∃ q, m.voted[i]? = some q := ⟨_, List.getElem?_eq_getElem (by omega)⟩
    have hil := wVoteds_len (m.voted.take i) u2
    have hsp := sum_split cVoted hq
    have hnx := wVoteds_next (s := u2) hq
    refine TL_index rfl rfl rfl hk.voted.tail.tail hq ?_
    intro bi42 oi42 li42
    refine TL_ex fun pq hok => ?_
    simp only [List.cons_append, List.nil_append]
    refine TL_y rfl rfl (Y_load_row_agg (vs := votedC q pq) rfl rfl) ?_
    refine TL_alloc rfl rfl ?_
    intro b5
    refine TL_store rfl rfl rfl rfl rfl rfl ?_
    refine TL_nil ?_
    refine T_region_last ?_
    refine TL_y rfl rfl (Y_move rfl) ?_
    refine TL_y rfl rfl (Y_load_agg rfl rfl) ?_
    refine TL_pullk b ?_
    refine TL_call rfl rfl (wvoted_spec q hok (A := pq.1) (c := pq.2) slk (by simp only [cVoteds] at hil hb ⊢; omega)) ?_
    rintro _ _ ⟨rfl, rfl⟩
    rw [← hnx]
    refine TL_nil ?_
    refine inB_normal ?_
    refine thenS_normal ?_
    refine T_region_last ?_
    refine TL_y rfl rfl (Y_add rfl rfl (by omega)) ?_
    refine TL_name 47 (v' := .int .i64 ((i + 1 : Nat) : Int)) rfl (rfl) ?_
    refine TL_y rfl rfl (Y_move rfl) ?_
    refine TL_nil ?_
    refine thenS_normal ?_
    exact ⟨i + 1, (by omega), by omega, holds_to (sub_cons rfl (sub_cons rfl (sub_cons rfl (sub_cons rfl (sub_cons rfl (sub_nil)))))) GivesTo.g⟩
  · refine T_exit ?_
    refine thenS_exit ?_
    refine thenS_exit ?_
    refine inB_hit ?_
    refine thenS_normal ?_
    have e : m.voted.take i = m.voted := List.take_of_length_le (by omega)
    rw [e]
    refine T_region ?_
    refine TL_y rfl rfl (Y_move rfl) ?_
    refine TL_y rfl rfl (Y_field_addr rfl) ?_
    refine TL_y rfl rfl (Y_load rfl rfl) ?_
    refine TL_pullk b ?_
    refine TL_call rfl rfl (wvector_spec hk.seen.tail (by omega)) ?_
    rintro _ _ ⟨rfl, rfl⟩
    refine TL_nil ?_
    refine T_region ?_
    refine TL_y rfl rfl (Y_move rfl) ?_
    refine TL_y rfl rfl (Y_field_addr rfl) ?_
    refine TL_y rfl rfl (Y_load rfl rfl) ?_
    refine TL_y rfl rfl (Y_len rfl) ?_
    refine TL_pullk b ?_
    refine TL_call rfl rfl (wnumber_spec 4096 (m.events.length : Int) (i64In_mk (by omega)) (by decide) (by omega)) ?_
    rintro _ _ ⟨rfl, rfl⟩
    rw [hu3]
    refine TL_nil ?_
    refine T_seq ?_
    refine T_region ?_
    refine TL_y rfl rfl (Y_field_addr rfl) ?_
    refine TL_y rfl rfl (Y_load rfl rfl) ?_
    refine TL_y rfl rfl (Y_len rfl) ?_
    refine TL_y rfl rfl (Y_move rfl) ?_
    refine TL_nil ?_
    refine T_block ?_
    refine T_loopK (σ := Nat) [0, 3, 58, 59] (fun i => i ≤ m.events.length) (fun i kv => (60, .int .i64 (i : Int)) :: kv) (fun i => wr b (wEvents (m.events.take i) u3) :: cells b3 (msgC m p) 44 :: L) (fun i => m.events.length - i) (0) rfl (Nat.zero_le _) (GivesTo.g (L' := wr b u3 :: cells b3 (msgC m p) 44 :: L)) (sub_cons rfl (sub_cons rfl (sub_cons rfl (sub_cons rfl (sub_cons rfl (sub_nil)))))) ?_
    intro i hi
    refine T_region ?_
    refine TL_y rfl rfl (Y_lt rfl rfl) ?_
    refine TL_nil ?_
    refine T_seq ?_
    refine T_if rfl (fun h61 => ?_) (fun h61 => ?_)
    · refine T_skip ?_
      refine thenS_normal ?_
      refine T_seq ?_
      refine T_block ?_
      refine T_region ?_
      obtain ⟨q, hq⟩ : ∃ q, m.events[i]? = some q := ⟨_, List.getElem?_eq_getElem (by omega)⟩
      have hil := wEvents_len (m.events.take i) u3
      have hsp := sum_split cEvent hq
      have hnx := wEvents_next (s := u3) hq
      refine TL_index rfl rfl rfl hk.events.tail.tail hq ?_
      intro bi62 oi62 li62
      refine TL_ex fun pq hok => ?_
      simp only [List.cons_append, List.nil_append]
      refine TL_y rfl rfl (Y_load_row_agg (vs := eventC q pq) rfl rfl) ?_
      refine TL_alloc rfl rfl ?_
      intro b7
      refine TL_store rfl rfl rfl rfl rfl rfl ?_
      refine TL_nil ?_
      refine T_region_last ?_
      refine TL_y rfl rfl (Y_move rfl) ?_
      refine TL_y rfl rfl (Y_load_agg rfl rfl) ?_
      refine TL_pullk b ?_
      refine TL_call rfl rfl (wevent_spec q hok (A := pq.1) (c := pq.2) slk (by simp only [cEvents] at hil hb ⊢; omega)) ?_
      rintro _ _ ⟨rfl, rfl⟩
      rw [← hnx]
      refine TL_nil ?_
      refine inB_normal ?_
      refine thenS_normal ?_
      refine T_region_last ?_
      refine TL_y rfl rfl (Y_add rfl rfl (by omega)) ?_
      refine TL_name 67 (v' := .int .i64 ((i + 1 : Nat) : Int)) rfl (rfl) ?_
      refine TL_y rfl rfl (Y_move rfl) ?_
      refine TL_nil ?_
      refine thenS_normal ?_
      exact ⟨i + 1, (by omega), by omega, holds_to (sub_cons rfl (sub_cons rfl (sub_cons rfl (sub_cons rfl (sub_cons rfl (sub_nil)))))) GivesTo.g⟩
    · refine T_exit ?_
      refine thenS_exit ?_
      refine thenS_exit ?_
      refine inB_hit ?_
      refine thenS_normal ?_
      have e : m.events.take i = m.events := List.take_of_length_le (by omega)
      rw [e]
      refine T_region_last ?_
      refine TL_y rfl rfl (Y_move rfl) ?_
      refine TL_y rfl rfl (Y_field_addr rfl) ?_
      refine TL_y rfl rfl (Y_load rfl rfl) ?_
      refine TL_pullk b ?_
      refine TL_call rfl rfl (wnumber_spec 4611686018427387904 m.time hx.time (by decide) (by omega)) ?_
      rintro _ _ ⟨rfl, rfl⟩
      refine TL_nil ?_
      rw [← hfin]
      exact RetG_0 (.inr rfl) rfl GivesTo.g (⟨rfl, rfl⟩)

/-! ### What is handed out -/
/-- What becomes of what was written: bytes, or an error. -/
def outB (s : WS) : List Int := if s.2 = true ∨ 65536 < s.1.length then [] else s.1
def outE (s : WS) : Int := if s.2 = true then 1 else if 65536 < s.1.length then 3 else 0
def outW (s : WS) (v : Value) (L L' : List HP) : Prop := ∃ A c, v = .tuple #[.slice A (outB s).length c, .int .i64 (outE s)] ∧ L' = osl (intR .u8) 5 A c (outB s) :: L
theorem written_spec {L : List HP} (f : FuncId) (cap : Value) (s : WS) [IsCall Try.prog f] (h : ∀ b, Fn Try.prog f #[.pointer (some ⟨b, 0, none⟩), cap] (wr b ([], false) :: L) (fun v L' => v = .tuple #[] ∧ L' = wr b s :: L)) : Fn Try.prog 110 #[.func (.func f) #[] #[cap]] L (fun v L' => outW s v L L') := by
  refine Fn_enter Try.func110 rfl rfl rfl rfl ?_
  refine T_region ?_
  refine TL_y rfl rfl (Y_assign rfl) ?_
  refine TL_y rfl rfl (Y_assign rfl) ?_
  refine TL_nil ?_
  refine T_region ?_
  refine TL_y rfl rfl (Y_build rfl rfl) ?_
  refine TL_box rfl rfl rfl ?_
  intro b6
  refine TL_gives (osl_nil (intR .u8) 5 none _) ?_
  refine TL_gives (Gives.swap _ _ _) ?_
  refine TL_gives (wr_close (b := b6) (s := ([], false)) (A := none) (c := 0)) ?_
  refine TL_y rfl rfl (Y_assign rfl) ?_
  refine TL_nil ?_
  refine T_region ?_
  refine TL_y rfl rfl (Y_move rfl) ?_
  refine TL_y rfl rfl (Y_move rfl) ?_
  refine TL_call_fn (fs := []) (cs := [cap]) rfl rfl rfl (h b6) ?_
  rintro _ _ ⟨rfl, rfl⟩
  refine TL_wr fun A9 c9 => ?_
  refine TL_nil ?_
  refine T_seq ?_
  refine T_block ?_
  refine T_region ?_
  refine TL_y rfl rfl (Y_move rfl) ?_
  refine TL_y rfl rfl (Y_nil_check rfl) ?_
  refine TL_y rfl rfl (Y_field_addr rfl) ?_
  refine TL_y rfl rfl (Y_load rfl rfl) ?_
  refine TL_y rfl rfl (Y_assign rfl) ?_
  refine TL_nil ?_
  refine T_cond rfl (fun h10 => ?_) (fun h10 => ?_)
  · have h10' := h10
    refine T_region ?_
    refine TL_y rfl rfl (Y_assign rfl) ?_
    refine TL_y rfl rfl (Y_assign rfl) ?_
    refine TL_nil ?_
    refine T_ret ?_
    refine inB_ret ?_
    refine thenS_ret ?_
    have e1 : outB s = [] := by simp [outB, h10]
    have e2 : outE s = 1 := by simp [outE, h10]
    refine RetQ.gives (osl_nil (intR .u8) 5 none _) ?_
    exact RetG_2 (.inl rfl) rfl (ResV.tmp rfl) (ResV.tmp rfl) GivesTo.g (⟨none, 0, by rw [e1, e2]; rfl, by rw [e1]⟩)
  · refine T_region ?_
    refine TL_y rfl rfl (Y_move rfl) ?_
    refine TL_y rfl rfl (Y_nil_check rfl) ?_
    refine TL_y rfl rfl (Y_field_addr rfl) ?_
    refine TL_y rfl rfl (Y_load rfl rfl) ?_
    refine TL_y rfl rfl (Y_len rfl) ?_
    refine TL_y rfl rfl (Y_gt rfl rfl) ?_
    refine TL_y rfl rfl (Y_assign rfl) ?_
    refine TL_nil ?_
    refine T_if rfl (fun h15 => ?_) (fun h15 => ?_)
    · refine T_region ?_
      refine TL_y rfl rfl (Y_assign rfl) ?_
      refine TL_y rfl rfl (Y_assign rfl) ?_
      refine TL_nil ?_
      refine T_ret ?_
      refine inB_ret ?_
      refine thenS_ret ?_
      have e1 : outB s = [] := by simp [outB, show 65536 < s.1.length by omega]
      have e2 : outE s = 3 := by simp [outE, h10, show 65536 < s.1.length by omega]
      refine RetQ.gives (osl_nil (intR .u8) 5 none _) ?_
      exact RetG_2 (.inl rfl) rfl (ResV.tmp rfl) (ResV.tmp rfl) GivesTo.g (⟨none, 0, by rw [e1, e2]; rfl, by rw [e1]⟩)
    · refine T_skip ?_
      refine inB_normal ?_
      refine thenS_normal ?_
      refine T_region ?_
      refine TL_y rfl rfl (Y_move rfl) ?_
      refine TL_y rfl rfl (Y_nil_check rfl) ?_
      refine TL_y rfl rfl (Y_field_addr rfl) ?_
      refine TL_y rfl rfl (Y_load rfl rfl) ?_
      refine TL_y rfl rfl (Y_assign rfl) ?_
      refine TL_y rfl rfl (Y_assign rfl) ?_
      refine TL_nil ?_
      refine T_ret ?_
      have e1 : outB s = s.1 := by rw [outB, if_neg (by simp [h10]; omega)]
      have e2 : outE s = 0 := by rw [outE, if_neg (by simp [h10]), if_neg (by omega)]
      exact RetG_2 (.inl rfl) rfl (ResV.tmp rfl) (ResV.tmp rfl) GivesTo.g (⟨A9, c9, by rw [e1, e2], by rw [e1]⟩)
theorem msgPut_spec {L : List HP} {b bm : Nat} (m : MsgD) (p : MsgP) (hx : MsgOk m) (hk : MsgK L m p) (hb : cMsg m ≤ 140737488355328) : Fn Try.prog 111 #[.pointer (some ⟨b, 0, none⟩), .pointer (some ⟨bm, 0, none⟩)] (wr b ([], false) :: cells bm (msgC m p) 44 :: L) (fun v L' => v = .tuple #[] ∧ L' = wr b (wMsg m ([], false)) :: cells bm (msgC m p) 44 :: L) := by
  refine Fn_enter Try.func111 rfl rfl rfl rfl ?_
  refine T_region_last ?_
  refine TL_y rfl rfl (Y_move rfl) ?_
  refine TL_y rfl rfl (Y_load_agg (vs := msgC m p) rfl rfl) ?_
  refine TL_call rfl rfl (wmsg_spec m p hx hk.tail (by simpa using hb)) ?_
  rintro _ _ ⟨rfl, rfl⟩
  refine TL_nil ?_
  exact RetG_0 (.inr rfl) rfl GivesTo.g (⟨rfl, rfl⟩)
theorem msg_spec {L : List HP} (m : MsgD) (p : MsgP) (hx : MsgOk m) (hk : MsgK L m p) (hb : cMsg m ≤ 140737488355328) : Fn Try.prog 81 #[.agg (List.toArray (msgC m p))] L (fun v L' => outW (wMsg m ([], false)) v L L') := by
  refine Fn_enter Try.func81 rfl rfl rfl rfl ?_
  refine T_region ?_
  refine TL_box rfl rfl rfl ?_
  intro b1
  refine TL_y rfl rfl (Y_assign rfl) ?_
  refine TL_y rfl rfl (Y_assign rfl) ?_
  refine TL_nil ?_
  refine T_region ?_
  refine TL_y rfl rfl (Y_make_func rfl rfl) ?_
  refine TL_call rfl rfl (written_spec 111 (.pointer (some ⟨b1, 0, none⟩)) (wMsg m ([], false)) (fun b ↦ msgPut_spec m p hx hk hb)) ?_
  rintro _ _ ⟨A5, c5, rfl, rfl⟩
  refine TL_y rfl rfl (Y_extract rfl rfl) ?_
  refine TL_y rfl rfl (Y_extract rfl rfl) ?_
  refine TL_y rfl rfl (Y_assign rfl) ?_
  refine TL_y rfl rfl (Y_assign rfl) ?_
  refine TL_nil ?_
  refine T_ret ?_
  exact RetG_2 (.inl rfl) rfl (ResV.tmp rfl) (ResV.tmp rfl) GivesTo.g (⟨A5, c5, rfl, rfl⟩)
end Go.SL
set_option linter.unusedVariables false
set_option linter.unusedSimpArgs false
namespace Go.SL
open Go Go.Proofs
def rNum (most n : Int) : Prop := 0 ≤ n ∧ n ≤ most
instance (most n : Int) : Decidable (rNum most n) := by unfold rNum; exact inferInstance
def rVec (v : List Int) : Prop := (∀ n ∈ v, rNum 2147483647 n) ∧ v.length ≤ 7 ∧ lastZero v = false
instance (v : List Int) : Decidable (rVec v) := by unfold rVec; exact inferInstance
def rBal (a : Int × Int) : Prop := rNum 2147483647 a.1 ∧ rNum 6 a.2
instance (a : Int × Int) : Decidable (rBal a) := by unfold rBal; exact inferInstance
def rSeal (x : OrderD) : Prop := isName x.token ∧ isName x.cart ∧ rNum 2147483647 x.epoch ∧ rVec x.cut
instance (x : OrderD) : Decidable (rSeal x) := by unfold rSeal; exact inferInstance
def rEntry (e : EntryD) : Prop := if e.noop = true then someSeal e.order = false else rSeal e.order
instance (e : EntryD) : Decidable (rEntry e) := by unfold rEntry; exact inferInstance
def rEvent (e : EventD) : Prop := rNum 6 e.dot.1 ∧ rNum 2147483647 e.dot.2 ∧ rVec e.deps ∧ isName e.cart ∧ rNum 2147483647 e.epoch ∧ isName e.sku ∧ rNum 1000 e.qty
instance (e : EventD) : Decidable (rEvent e) := by unfold rEvent; exact inferInstance
def rVoted (v : VotedD) : Prop := rNum 2147483647 v.slot ∧ rBal v.bal ∧ rEntry v.en
instance (v : VotedD) : Decidable (rVoted v) := by unfold rVoted; exact inferInstance
def rMsg (m : MsgD) : Prop := rNum 255 m.kind ∧ rNum 6 m.frm ∧ rNum 6 m.to_ ∧ rBal m.bal ∧ rNum 2147483647 m.slot ∧ rEntry m.en ∧ (m.voted.length ≤ 4096 ∧ ∀ v ∈ m.voted, rVoted v) ∧ rVec m.seen ∧ (m.events.length ≤ 4096 ∧ ∀ v ∈ m.events, rEvent v) ∧ rNum 4611686018427387904 m.time
instance (m : MsgD) : Decidable (rMsg m) := by unfold rMsg; exact inferInstance

theorem wNum_bad {most n : Int} {s : WS} : (wNum most n s).2 = false ↔ s.2 = false ∧ rNum most n := by
  unfold wNum rNum; split
  · simp; omega
  · simp; omega
theorem wName_bad {t : ByteArray} {s : WS} : (wName t s).2 = false ↔ s.2 = false ∧ isName t := by
  show (wNum 65536 (t.size : Int) (s.1, s.2 || !decide (isName t))).2 = false ↔ _
  rw [wNum_bad]
  constructor
  · rintro ⟨h, _⟩
    simpa using h
  · rintro ⟨h1, h2⟩
    refine ⟨by simp [h1, h2], ?_⟩
    have := h2.2.2
    unfold rNum; omega
theorem wTruth_bad {b : Bool} {s : WS} : (wTruth b s).2 = false ↔ s.2 = false := by
  unfold wTruth
  rw [wNum_bad]
  cases b <;> simp [rNum]
theorem wInts_bad : ∀ {v : List Int} {s : WS}, (wInts v s).2 = false ↔ s.2 = false ∧ ∀ n ∈ v, rNum 2147483647 n
  | [], s => by simp [wInts]
  | n :: v, s => by
    show (wInts v (wNum 2147483647 n s)).2 = false ↔ _
    rw [wInts_bad, wNum_bad]
    simp [and_assoc]
theorem wVec_bad {v : List Int} {s : WS} : (wVec v s).2 = false ↔ s.2 = false ∧ rVec v := by
  unfold wVec rVec
  rw [wInts_bad, wNum_bad]
  simp only [Bool.or_eq_false_iff]
  constructor
  · rintro ⟨⟨⟨h1, h2⟩, h3⟩, h4⟩
    exact ⟨h1, h4, by unfold rNum at h3; omega, h2⟩
  · rintro ⟨h1, h4, h3, h2⟩
    exact ⟨⟨⟨h1, h2⟩, by unfold rNum; omega⟩, h4⟩
theorem wBal_bad {a : Int × Int} {s : WS} : (wBal a s).2 = false ↔ s.2 = false ∧ rBal a := by
  unfold wBal rBal; rw [wNum_bad, wNum_bad, and_assoc]
theorem wSeal_bad {x : OrderD} {s : WS} : (wSeal x s).2 = false ↔ s.2 = false ∧ rSeal x := by
  unfold wSeal rSeal; rw [wVec_bad, wNum_bad, wName_bad, wName_bad]; simp only [and_assoc]
theorem wEntry_bad {e : EntryD} {s : WS} : (wEntry e s).2 = false ↔ s.2 = false ∧ rEntry e := by
  unfold wEntry rEntry
  simp only []
  split
  · simp [wTruth_bad]
  · rw [wSeal_bad, wTruth_bad]
theorem wEvent_bad {e : EventD} {s : WS} : (wEvent e s).2 = false ↔ s.2 = false ∧ rEvent e := by
  unfold wEvent rEvent; rw [wTruth_bad, wNum_bad, wName_bad, wNum_bad, wName_bad, wVec_bad, wNum_bad, wNum_bad]; simp only [and_assoc]
theorem wVoted_bad {v : VotedD} {s : WS} : (wVoted v s).2 = false ↔ s.2 = false ∧ rVoted v := by
  unfold wVoted rVoted; rw [wEntry_bad, wBal_bad, wNum_bad]; simp only [and_assoc]
theorem wVoteds_bad : ∀ {v : List VotedD} {s : WS}, (wVoteds v s).2 = false ↔ s.2 = false ∧ ∀ n ∈ v, rVoted n
  | [], s => by simp [wVoteds]
  | n :: v, s => by
    show (wVoteds v (wVoted n s)).2 = false ↔ _
    rw [wVoteds_bad, wVoted_bad]
    simp [and_assoc]
theorem wEvents_bad : ∀ {v : List EventD} {s : WS}, (wEvents v s).2 = false ↔ s.2 = false ∧ ∀ n ∈ v, rEvent n
  | [], s => by simp [wEvents]
  | n :: v, s => by
    show (wEvents v (wEvent n s)).2 = false ↔ _
    rw [wEvents_bad, wEvent_bad]
    simp [and_assoc]
theorem rNum_len {k : Nat} {most : Nat} : rNum (most : Int) (k : Int) ↔ k ≤ most := by unfold rNum; omega
theorem wMsg_bad {m : MsgD} {s : WS} : (wMsg m s).2 = false ↔ s.2 = false ∧ rMsg m := by
  unfold wMsg rMsg
  rw [wNum_bad, wEvents_bad, wNum_bad, wVec_bad, wVoteds_bad, wNum_bad, wEntry_bad, wNum_bad, wBal_bad, wNum_bad, wNum_bad, wNum_bad]
  have h1 : rNum 4096 (m.voted.length : Int) ↔ m.voted.length ≤ 4096 := rNum_len (most := 4096)
  have h2 : rNum 4096 (m.events.length : Int) ↔ m.events.length ≤ 4096 := rNum_len (most := 4096)
  rw [h1, h2]; simp only [and_assoc]

/-! ### A message that only bears an entry -/
def mEntry (e : EntryD) : MsgD := ⟨0, 0, 0, (0, 0), 0, e, [], [], [], 0⟩
theorem mEntry_right {e : EntryD} : rMsg (mEntry e) ↔ rEntry e := by
  simp [rMsg, mEntry, rNum, rBal, rVec, lastZero]
theorem some_len {x : OrderD} (h : someSeal x = false) : x.token.size = 0 ∧ x.cart.size = 0 ∧ x.cut.length = 0 := by
  simp only [someSeal, Bool.or_eq_false_iff, decide_eq_false_iff_not, Classical.not_not] at h
  exact ⟨(empty_eq _).1 h.1.1.1, (empty_eq _).1 h.1.1.2, by have := h.2; omega⟩
theorem rEntry_size {e : EntryD} (h : rEntry e) : cSeal e.order ≤ 300 := by
  unfold rEntry at h
  split at h
  · have := some_len h
    unfold cSeal; omega
  · have h1 := h.1.2.2; have h2 := h.2.1.2.2; have h3 := h.2.2.2.2.1
    unfold cSeal; omega
theorem wMsg_len0 (e : EntryD) (hb : cSeal e.order ≤ 140737488355000) : (wMsg (mEntry e) ([], false)).1.length ≤ cSeal e.order + 200 := by
  have h1 := wNum_len 255 0 ([], false) (by decide)
  have h2 := wNum_len 6 0 (wNum 255 0 ([], false)) (by decide)
  have h3 := wNum_len 6 0 (wNum 6 0 (wNum 255 0 ([], false))) (by decide)
  have h4 := wBal_len (0, 0) (wNum 6 0 (wNum 6 0 (wNum 255 0 ([], false))))
  have h5 := wNum_len 2147483647 0 (wBal (0, 0) (wNum 6 0 (wNum 6 0 (wNum 255 0 ([], false))))) (by decide)
  have h6 := wEntry_len e (wNum 2147483647 0 (wBal (0, 0) (wNum 6 0 (wNum 6 0 (wNum 255 0 ([], false))))))
  have h7 := wNum_len 4096 0 (wEntry e (wNum 2147483647 0 (wBal (0, 0) (wNum 6 0 (wNum 6 0 (wNum 255 0 ([], false))))))) (by decide)
  have h8 := wVec_len [] (wNum 4096 0 (wEntry e (wNum 2147483647 0 (wBal (0, 0) (wNum 6 0 (wNum 6 0 (wNum 255 0 ([], false))))))))
  have h9 := wNum_len 4096 0 (wVec [] (wNum 4096 0 (wEntry e (wNum 2147483647 0 (wBal (0, 0) (wNum 6 0 (wNum 6 0 (wNum 255 0 ([], false))))))))) (by decide)
  have h10 := wNum_len 4611686018427387904 0 (wNum 4096 0 (wVec [] (wNum 4096 0 (wEntry e (wNum 2147483647 0 (wBal (0, 0) (wNum 6 0 (wNum 6 0 (wNum 255 0 ([], false)))))))))) (by decide)
  have e1 : wMsg (mEntry e) ([], false) = wNum 4611686018427387904 0 (wNum 4096 0 (wVec [] (wNum 4096 0 (wEntry e (wNum 2147483647 0 (wBal (0, 0) (wNum 6 0 (wNum 6 0 (wNum 255 0 ([], false)))))))))) := rfl
  rw [e1]
  simp only [List.length_nil] at *
  have : 60 ≤ cSeal e.order := by unfold cSeal; omega
  omega
theorem outE_entry {e : EntryD} (hb : cSeal e.order ≤ 140737488355000) : outE (wMsg (mEntry e) ([], false)) = if rEntry e then 0 else 1 := by
  have hbad := wMsg_bad (m := mEntry e) (s := ([], false))
  rw [mEntry_right] at hbad
  unfold outE
  by_cases h : rEntry e
  · have h1 : (wMsg (mEntry e) ([], false)).2 = false := hbad.2 ⟨rfl, h⟩
    have h2 := wMsg_len0 e hb
    have h3 := rEntry_size h
    rw [if_neg (by rw [h1]; simp), if_neg (by omega), if_pos h]
  · have h1 : (wMsg (mEntry e) ([], false)).2 = true := by
      cases hh : (wMsg (mEntry e) ([], false)).2 with
      | true => rfl
      | false => exact absurd (hbad.1 hh).2 h
    rw [if_pos h1, if_neg h]
/-! ### Contracts -/
theorem i0 : intIn .i64 0 := by decide
/-- codec.Msg of an entry: only whether it may be written counts. -/
theorem msgEntry_spec {L : List HP} {A : Option Addr} {c : Nat} (e : EntryD) (hx : orderOk' e.order) (hk : SlK L (intR .i64) A c e.order.cut) (hb : cSeal e.order ≤ 140737488355000) : Fn Try.prog 81 #[.agg (List.toArray (msgC (mEntry e) ⟨(A, c), (none, 0), (none, 0), (none, 0)⟩))] L (fun v L' => (∃ B d k, v = .tuple #[.slice B k d, .int .i64 (if rEntry e then 0 else 1)]) ∧ L' = L) :=
  (msg_spec (mEntry e) ⟨(A, c), (none, 0), (none, 0), (none, 0)⟩ ⟨i0, i0, i0, i0, i0, i0, hx, i0⟩ ⟨hk, slnil, slnil, slnil⟩ (by simp only [cMsg, mEntry, cVoteds, cEvents]; simp; omega)).mono fun v L' h => by
    obtain ⟨B, d, h1, h2⟩ := h
    subst h2
    exact ⟨L, Gives.drop _ _, ⟨B, d, _, by rw [h1, outE_entry hb]⟩, rfl⟩
end Go.SL
set_option linter.unusedVariables false
set_option linter.unusedSimpArgs false
namespace Go.SL
open Go Go.Proofs

end Go.SL
