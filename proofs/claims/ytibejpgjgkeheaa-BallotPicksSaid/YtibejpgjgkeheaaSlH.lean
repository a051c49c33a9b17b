/- The rules of the logic: loops and joins that keep what they do not touch; an element's address; a row of ours as a slice. Nothing in this text is about one program. -/
import Derived.Test.YtibejpgjgkeheaaSlG
set_option linter.unusedVariables false
set_option linter.unusedSimpArgs false
namespace Go.SL
open Go

/-- The values of these slots. -/
def keepO : List Nat → Env → Option Env
  | [], _ => some []
  | k :: ks, E => match look E k with
    | some v => match keepO ks E with
      | some r => some ((k, v) :: r)
      | none => none
    | none => none

section
variable {r : Option Nat} {n : Nat} {P : Program} {ops : Array Oper} {rest : List Oper} {K : St → Prop} {Q : Exit → St → Prop} {D : List Deferred} {E E' kv : Env} {L L' : List HP} {d : Nat} {ty : TypeId} {pos : String} {af : Array Edge} {s : St}

theorem TL_mono {l : List Oper} {K K' : St → Prop} {s : St} (h : TL r n P ops l s K) (hk : ∀ s, K s → K' s) : TL r n P ops l s K' := fun W a w hh =>
  wpListIn_mono (fun e a' w' ⟨he, s', q, k⟩ => ⟨he, s', hk _ q, k⟩) l a w (h W a w hh)
theorem T_loopK {c : Code} {σ : Type} (ks : List Nat) (I : σ → Prop) (U : σ → Env → Env) (M : σ → List HP) (μ : σ → Nat) (x0 : σ) (hk : keepO ks E = some kv) (h0 : I x0) (hg : Gives L (M x0)) (h1 : ∀ i v, look (U x0 kv) i = some v → look E i = some v)
    (round : ∀ x, I x → T r n P c ⟨D, U x kv, M x⟩ (thenS (fun s' => ∃ y, I y ∧ μ y < μ x ∧ ∀ W a w, Holds n W s' a w → Holds n W ⟨D, U y kv, M y⟩ a w) Q)) : T r n P (.loop c) ⟨D, E, L⟩ Q :=
  T_loop I (fun x => ⟨D, U x kv, M x⟩) μ x0 h0 (holds_to h1 hg) round
/-- Ways that come together behind x. -/
theorem T_joinK {σ : Type} {x c : Code} (ks : List Nat) (I : σ → Prop) (U : σ → Env → Env) (M : σ → List HP) (hk : keepO ks E = some kv)
    (h1 : T r n P x ⟨D, E, L⟩ (thenS (fun s' => ∃ y, I y ∧ ∀ W a w, Holds n W s' a w → Holds n W ⟨D, U y kv, M y⟩ a w) Q)) (h2 : ∀ y, I y → T r n P c ⟨D, U y kv, M y⟩ Q) : T r n P (.seq x c) ⟨D, E, L⟩ Q :=
  T_seq_cut I (fun y => ⟨D, U y kv, M y⟩) h1 h2
def takeO {α : Type} : Nat → List α → List α
  | k + 1, x :: l => x :: takeO k l
  | _, _ => []
def dropO {α : Type} : Nat → List α → List α
  | k + 1, _ :: l => dropO k l
  | _, l => l
theorem takeO_dropO {α : Type} : ∀ (k : Nat) (l : List α), takeO k l ++ dropO k l = l
  | 0, l => rfl
  | k + 1, [] => rfl
  | k + 1, x :: l => by simp [takeO, dropO, takeO_dropO k l]
theorem TL_joinK {σ : Type} {l : List Oper} (k : Nat) (ks : List Nat) (I : σ → Prop) (U : σ → Env → Env) (M : σ → List HP) (hk : keepO ks E = some kv)
    (h1 : TL r n P ops (takeO k l) ⟨D, E, L⟩ (fun s' => ∃ y, I y ∧ ∀ W a w, Holds n W s' a w → Holds n W ⟨D, U y kv, M y⟩ a w)) (h2 : ∀ y, I y → TL r n P ops (dropO k l) ⟨D, U y kv, M y⟩ K) : TL r n P ops l ⟨D, E, L⟩ K := by
  rw [← takeO_dropO k l]
  exact TL_cut I (fun y => ⟨D, U y kv, M y⟩) h1 h2
/-- A truth that later operations yield only on one way: p, on all ways. -/
theorem TL_both {l : List Oper} (k g : Nat) (p : Prop) [Decidable p] (h1 : TL r n P ops (takeO k l) ⟨D, E, L⟩ (fun s' => ∀ W a w, Holds n W s' a w → Holds n W ⟨D, (g, .bool (decide p)) :: E, L⟩ a w)) (h2 : TL r n P ops (dropO k l) ⟨D, (g, .bool (decide p)) :: E, L⟩ K) : TL r n P ops l ⟨D, E, L⟩ K := by
  rw [← takeO_dropO k l]
  exact TL_cut (σ := Unit) (fun _ => True) (fun _ => ⟨D, (g, .bool (decide p)) :: E, L⟩) (TL_mono h1 fun s h => ⟨(), trivial, h⟩) (fun _ _ => h2)

theorem Y_quo_w {x y : Operand} {t t' : TypeId} {k : IntKind} {m l : Int} (hx : ev E x = some (.int k m)) (hy : ev E y = some (.int k l)) (hb : l ≠ 0) : Yl P E L (.binOp .quo t x y t') ty (.int k (k.wrap (m.tdiv l))) := fun n D W a w dst pos af g ha hs => by rw [run_binop (ha.ev hx) (ha.ev hy)]; simp only [Go.binOp, Op.intDiv]; rw [if_neg (by simp), if_neg hb]; rfl
theorem TL_gskip_u {op : Op} {j g : Nat} {want : Bool} (hd : Nat.blt d n = true) (hy : (ops[j]?).bind (·.dst) = some g) (hl : look E g = some undef)
    (h : TL r n P ops rest ⟨D, (d, undef) :: E, L⟩ K) : TL r n P ops (⟨some d, op, ty, pos, af, some (j, want)⟩ :: rest) ⟨D, E, L⟩ K := fun W a w hh => by
  have hw : Region.wanted ⟨some d, op, ty, pos, af, some (j, want)⟩ (yielded ops a.tmps) = false := by
    simp only [Region.wanted, yielded, hy, Option.bind_some, hh.1.get g _ hl]
    rfl
  simp only [wpListIn, hw, Bool.false_eq_true, if_false]
  exact ⟨fun _ _ => trivial, h W _ _ ⟨hh.1.put (by simpa using hd) _, hh.2⟩⟩
theorem strBytes_in {s : ByteArray} {i : Nat} {u : Int} (h : (strBytes s)[i]? = some u) : 0 ≤ u ∧ u ≤ 255 := by
  obtain ⟨b, _, rfl⟩ := List.mem_map.1 (List.mem_of_getElem? h)
  have := b.toNat_lt
  omega
theorem Y_index_s {x i : Operand} {t : TypeId} {ik : IntKind} {j : Nat} {u : Int} {s : ByteArray} [ht : TyDesc P t .string] (hx : ev E x = some (.string s)) (hi : ev E i = some (.int ik (j : Int))) (hu : (strBytes s)[j]? = some u) :
    Yl P E L (.index t x i) ty (.int .u8 u) := by
  have hj : j < s.size := by rw [← strBytes_length]; exact (List.getElem?_eq_some_iff.1 hu).1
  refine (Y_index_str hx hi ⟨by omega, by omega⟩).val ?_
  have : u = (s[j].toNat : Int) := by
    simp only [strBytes, List.getElem?_map] at hu
    have h2 : s.data.toList[j]? = some s[j] := by
      rw [List.getElem?_eq_getElem (by simpa using hj)]; rfl
    rw [h2] at hu
    simpa using hu.symm
  rw [this]; simp
theorem TL_pullc (b : Nat) {l : List Value} {t : TypeId} {L1 : List HP} [hf : FindC L b l t L1] (h : TL r n P ops rest ⟨D, E, cells b l t :: L1⟩ K) : TL r n P ops rest ⟨D, E, L⟩ K := TL_gives hf.g h
theorem T_pullc (b : Nat) {l : List Value} {t : TypeId} {L1 : List HP} {c : Code} [hf : FindC L b l t L1] (h : T r n P c ⟨D, E, cells b l t :: L1⟩ Q) : T r n P c ⟨D, E, L⟩ Q := T_gives hf.g h
theorem TL_pullo (A : Option Addr) (c : Nat) {β : Type} {R : Rep β} {t : TypeId} {xs : List β} {L1 : List HP} [hf : FindO L A c β R t xs L1] (h : TL r n P ops rest ⟨D, E, osl R t A c xs :: L1⟩ K) : TL r n P ops rest ⟨D, E, L⟩ K := TL_gives hf.g h
theorem T_pullo (A : Option Addr) (c : Nat) {β : Type} {R : Rep β} {t : TypeId} {xs : List β} {L1 : List HP} {c' : Code} [hf : FindO L A c β R t xs L1] (h : T r n P c' ⟨D, E, osl R t A c xs :: L1⟩ Q) : T r n P c' ⟨D, E, L⟩ Q := T_gives hf.g h
/-! ### Returns that let go of what nobody wants -/
section
variable {fn : Func} {Φ : Value → List HP → Prop} {x y z : ResultVar} {u v t : Value} {e : Exit}
theorem RetG_0 (he : e = .ret ∨ e = .normal) (hr : fn.results = #[]) (g : Gives L L') (h : Φ (.tuple #[]) L') : RetQ P fn Φ e ⟨[], E, L⟩ := RetQ.gives g (Ret_0 he hr h)
theorem RetQ.imp {Ψ : Value → List HP → Prop} {L L' : List HP} (g : Gives L L') (hm : ∀ v, Ψ v L → Φ v L') (h : RetQ P fn (fun v L1 => Ψ v L ∧ L1 = L) e ⟨[], E, L⟩) : RetQ P fn Φ e ⟨[], E, L⟩ := by
  cases e <;> simp only [RetQ] at h ⊢
  case ret => exact ⟨h.1, let ⟨v, L1, a, b⟩ := h.2; ⟨v, L', hm v a.1, fun n W c w hh => let k := b n W c w hh; ⟨by rw [a.2] at k; exact k.1.gives g, k.2⟩⟩⟩
  case normal => exact ⟨h.1, let ⟨v, L1, a, b⟩ := h.2; ⟨v, L', hm v a.1, fun n W c w hh => let k := b n W c w hh; ⟨by rw [a.2] at k; exact k.1.gives g, k.2⟩⟩⟩
theorem RetG_1 (he : e = .ret ∨ e = .normal) (hr : fn.results = #[x]) (hx : ResV P E L x v) (g : Gives L L') (h : Φ v L') : RetQ P fn Φ e ⟨[], E, L⟩ :=
  RetQ.imp (Ψ := fun u _ => u = v) g (fun u e => e ▸ h) (Ret_1 he hr hx ⟨rfl, rfl⟩)
theorem RetG_2 (he : e = .ret ∨ e = .normal) (hr : fn.results = #[x, y]) (hx : ResV P E L x u) (hy : ResV P E L y v) (g : Gives L L') (h : Φ (.tuple #[u, v]) L') : RetQ P fn Φ e ⟨[], E, L⟩ :=
  RetQ.imp (Ψ := fun q _ => q = .tuple #[u, v]) g (fun q e => e ▸ h) (Ret_2 he hr hx hy ⟨rfl, rfl⟩)
theorem RetG_3 (he : e = .ret ∨ e = .normal) (hr : fn.results = #[x, y, z]) (hx : ResV P E L x u) (hy : ResV P E L y v) (hz : ResV P E L z t) (g : Gives L L') (h : Φ (.tuple #[u, v, t]) L') : RetQ P fn Φ e ⟨[], E, L⟩ :=
  RetQ.imp (Ψ := fun q _ => q = .tuple #[u, v, t]) g (fun q e => e ▸ h) (Ret_3 he hr hx hy hz ⟨rfl, rfl⟩)
end

/-! ### An element's address -/
variable {α : Type} {R : Rep α} {A : Option Addr} {c : Nat} {xs : List α}
def AtA (A : Option Addr) (k b o : Nat) : Prop := ∃ o', A = some ⟨b, o', none⟩ ∧ o = o' + k
theorem Y_index_at {x i : Operand} {t e : TypeId} {k m b o j : Nat} {ik : IntKind} [ht : TyDesc P t (.slice e)] [hz : TySize P e m] (hx : ev E x = some (.slice A k c)) (hi : ev E i = some (.int ik (j : Int))) (hb : j < k) (ha : AtA A (j * m) b o) :
    Yl P E L (.indexAddr t x i) ty (.pointer (some ⟨b, o + 0, none⟩)) := by
  obtain ⟨o', rfl, rfl⟩ := ha
  have := Y_index_addr (P := P) (L := L) (ty := ty) (t := t) (e := e) (m := m) hx hi ⟨by omega, by omega⟩
  simpa using this
theorem at_gives (hk : SlK L R A c xs) {i : Nat} {x : α} (hx : xs[i]? = some x) : ∀ W w, Sat W w L → ∃ b o l, AtA A (i * R.sz) b o ∧ Sat W w (row b o l :: is R x l :: L) := fun W w hs => by
  obtain ⟨M, hM, h1, h2, h3⟩ := hs.knows hk
  rcases h3 with e | ⟨b, o, e, hall⟩
  · rw [e] at hx; simp at hx
  · subst e
    obtain ⟨l, hl⟩ := elem_gives hk (i := (i : Int)) (by simpa using hx) W w hs
    exact ⟨b, o + i * R.sz, l, ⟨o, rfl, rfl⟩, by simpa using hl⟩
theorem T_at {c' : Code} (hk : SlK L R A c xs) {i : Nat} {x : α} (hx : xs[i]? = some x) (h : ∀ b o l, AtA A (i * R.sz) b o → T r n P c' ⟨D, E, row b o l :: is R x l :: L⟩ Q) : T r n P c' ⟨D, E, L⟩ Q := fun W a w hh => by
  obtain ⟨b, o, l, ha, hl⟩ := at_gives hk hx W w hh.2
  exact h b o l ha W a w ⟨hh.1, hl⟩
theorem TL_at (hk : SlK L R A c xs) {i : Nat} {x : α} (hx : xs[i]? = some x) (h : ∀ b o l, AtA A (i * R.sz) b o → TL r n P ops rest ⟨D, E, row b o l :: is R x l :: L⟩ K) : TL r n P ops rest ⟨D, E, L⟩ K := fun W a w hh => by
  obtain ⟨b, o, l, ha, hl⟩ := at_gives hk hx W w hh.2
  exact h b o l ha W a w ⟨hh.1, hl⟩
theorem T_is {R : Rep α} {u : α} {l : List Value} {b o : Nat} {p : Prop} {c' : Code} (hp : ∀ M, R.rep M u l → p) (h : p → T r n P c' ⟨D, E, row b o l :: L⟩ Q) : T r n P c' ⟨D, E, row b o l :: is R u l :: L⟩ Q :=
  T_fact (φ := fun M => R.rep M u l) (Knows.tail (Knows.head' fun _ _ h => h)) hp fun q => T_gives (Gives.cons _ (Gives.drop _ _)) (h q)
theorem TL_is {R : Rep α} {u : α} {l : List Value} {b o : Nat} {p : Prop} (hp : ∀ M, R.rep M u l → p) (h : p → TL r n P ops rest ⟨D, E, row b o l :: L⟩ K) : TL r n P ops rest ⟨D, E, row b o l :: is R u l :: L⟩ K :=
  TL_fact (φ := fun M => R.rep M u l) (Knows.tail (Knows.head' fun _ _ h => h)) hp fun q => TL_gives (Gives.cons _ (Gives.drop _ _)) (h q)
theorem T_at_int {k : IntKind} {xs : List Int} {c' : Code} (hk : SlK L (intR k) A c xs) {i : Nat} {x : Int} (hx : xs[i]? = some x) (h : ∀ b o, intIn k x → AtA A (i * 1) b o → T r n P c' ⟨D, E, row b o [.int k x] :: L⟩ Q) : T r n P c' ⟨D, E, L⟩ Q :=
  T_at hk hx fun b o l ha => T_is (p := l = [.int k x] ∧ intIn k x) (fun M h => h) fun ⟨e, hk⟩ => by subst e; exact h b o hk ha
theorem T_at_str {xs : List ByteArray} {c' : Code} (hk : SlK L strR A c xs) {i : Nat} {x : ByteArray} (hx : xs[i]? = some x) (h : ∀ b o, x.size ≤ maxEl → AtA A (i * 1) b o → T r n P c' ⟨D, E, row b o [.string x] :: L⟩ Q) : T r n P c' ⟨D, E, L⟩ Q :=
  T_at hk hx fun b o l ha => T_is (p := l = [.string x] ∧ x.size ≤ maxEl) (fun M h => h) fun ⟨e, hk⟩ => by subst e; exact h b o hk ha
theorem TL_index {x i : Operand} {t e : TypeId} {ik : IntKind} {j : Nat} {u : α} [ht : TyDesc P t (.slice e)] [hz : TySize P e R.sz] (hd : Nat.blt d n = true) (hx : ev E x = some (.slice A xs.length c)) (hi : ev E i = some (.int ik (j : Int))) (hk : SlK L R A c xs) (hu : xs[j]? = some u)
    (h : ∀ b o l, TL r n P ops rest ⟨D, (d, .pointer (some ⟨b, o + 0, none⟩)) :: E, row b o l :: is R u l :: L⟩ K) : TL r n P ops (⟨some d, .indexAddr t x i, ty, pos, af, none⟩ :: rest) ⟨D, E, L⟩ K := by
  have hlt : j < xs.length := (List.getElem?_eq_some_iff.1 hu).1
  refine TL_at hk hu fun b o l ha => ?_
  exact TL_y hd rfl (Y_index_at hx hi hlt ha) (h b o l)
/-- Of a slice of numbers. -/
theorem TL_index_int {k : IntKind} {xs : List Int} {x i : Operand} {t e : TypeId} {ik : IntKind} {j : Nat} {u : Int} [ht : TyDesc P t (.slice e)] [hz : TySize P e 1] (hd : Nat.blt d n = true) (hx : ev E x = some (.slice A xs.length c)) (hi : ev E i = some (.int ik (j : Int))) (hk : SlK L (intR k) A c xs) (hu : xs[j]? = some u)
    (h : intIn k u → ∀ b o, TL r n P ops rest ⟨D, (d, .pointer (some ⟨b, o + 0, none⟩)) :: E, row b o [.int k u] :: L⟩ K) : TL r n P ops (⟨some d, .indexAddr t x i, ty, pos, af, none⟩ :: rest) ⟨D, E, L⟩ K :=
  TL_index (R := intR k) hd hx hi hk hu fun b o l => TL_is (p := l = [.int k u] ∧ intIn k u) (fun M h => h) fun ⟨e, hk⟩ => by subst e; exact h hk b o
theorem TL_index_strs {xs : List ByteArray} {x i : Operand} {t e : TypeId} {ik : IntKind} {j : Nat} {u : ByteArray} [ht : TyDesc P t (.slice e)] [hz : TySize P e 1] (hd : Nat.blt d n = true) (hx : ev E x = some (.slice A xs.length c)) (hi : ev E i = some (.int ik (j : Int))) (hk : SlK L strR A c xs) (hu : xs[j]? = some u)
    (h : u.size ≤ maxEl → ∀ b o, TL r n P ops rest ⟨D, (d, .pointer (some ⟨b, o + 0, none⟩)) :: E, row b o [.string u] :: L⟩ K) : TL r n P ops (⟨some d, .indexAddr t x i, ty, pos, af, none⟩ :: rest) ⟨D, E, L⟩ K :=
  TL_index (R := strR) hd hx hi hk hu fun b o l => TL_is (p := l = [.string u] ∧ u.size ≤ maxEl) (fun M h => h) fun ⟨e, hk⟩ => by subst e; exact h hk b o
theorem SlK.cap (h : SlK L R A c xs) : SlK L R A xs.length xs := h.mono fun M h => ⟨Nat.le_refl _, h.2.1, h.2.2⟩
theorem SlK.take (h : SlK L R A c xs) (j : Nat) : SlK L R A c (xs.take j) := h.mono fun M h => by
  refine ⟨by have := h.1; rw [List.length_take]; omega, by have := h.2.1; rw [List.length_take]; omega, ?_⟩
  rcases h.2.2 with e | ⟨b, o, e, cs, t, fr, hb, hall⟩
  · left; simp [e]
  · right
    refine ⟨b, o, e, cs, t, fr, hb, fun i x hi => hall i x ?_⟩
    rw [List.getElem?_take] at hi
    split at hi
    · exact hi
    · cases hi
theorem SlK.drop (h : SlK L R A c xs) {i : Nat} (hi : i ≤ xs.length) : SlK L R (cutA A i c R.sz) (c - i) (xs.drop i) := h.mono fun M h => by
  have := h.cut i xs.length c hi (Nat.le_refl _) h.1
  rwa [List.take_length] at this
theorem SlK.drop_app {k : Nat} {ys : List α} (h : SlK L R A c (xs ++ ys)) (hk : k = xs.length) : SlK L R (cutA A k c R.sz) (c - k) ys := by
  subst hk
  have := h.drop (i := xs.length) (by simp)
  rwa [List.drop_left] at this
theorem SlK.lens {R : Rep α} (h : SlK L R A c xs) {c' : Code} (k : xs.length ≤ c ∧ xs.length ≤ maxEl → T r n P c' ⟨D, E, L⟩ Q) : T r n P c' ⟨D, E, L⟩ Q := T_fact h.len (fun _ h => h) k
theorem SlK.lensL {R : Rep α} (h : SlK L R A c xs) (k : xs.length ≤ c ∧ xs.length ≤ maxEl → TL r n P ops rest ⟨D, E, L⟩ K) : TL r n P ops rest ⟨D, E, L⟩ K := TL_fact h.len (fun _ h => h) k
theorem SlK.none_nil (h : SlK L R none c xs) : Knows L (fun _ => xs = []) := h.mono fun M h => by
  rcases h.2.2 with e | ⟨b, o, e, _⟩
  · exact e
  · cases e

/-! ### A row of ours as a slice -/
theorem cells_osl {b k : Nat} {cs : List Value} {e : TypeId} (hc : Knows L (fun M => CellsOf M R xs cs)) (hk : xs.length = k) (hm : k ≤ 16777216) : Gives (cells b cs e :: L) (osl R e (some ⟨b, 0, none⟩) k xs :: L) := fun M m ⟨h1, h2, hd, l1, l2, hp, hs⟩ => by
  have hcs := hc M h2 hs
  refine ⟨h1, h2, hd, l1, l2, ⟨by simp only [maxEl]; omega, .inr ⟨b, cs.toArray, rfl, hp, by simp [hcs.length, hk], by omega, by omega, fun i x hi => ?_⟩⟩, hs⟩
  obtain ⟨l, a, b⟩ := hcs.at_ i x hi
  exact ⟨l, a, fun j v hj => by simpa using b j v hj⟩
theorem TL_osl {b k : Nat} {cs : List Value} {e : TypeId} (R : Rep α) (xs : List α) (hc : Knows L (fun M => CellsOf M R xs cs)) (hk : xs.length = k) (hm : k ≤ 16777216) (h : TL r n P ops rest ⟨D, E, osl R e (some ⟨b, 0, none⟩) k xs :: L⟩ K) : TL r n P ops rest ⟨D, E, cells b cs e :: L⟩ K := TL_gives (cells_osl hc hk hm) h
theorem cells_ints {k : IntKind} : ∀ {xs : List Int}, (∀ x ∈ xs, intIn k x) → ∀ M, CellsOf M (intR k) xs (xs.map fun x => .int k x)
  | [], _, M => rfl
  | x :: xs, h, M => ⟨[.int k x], _, ⟨rfl, h x (by simp)⟩, cells_ints (fun y hy => h y (by simp [hy])) M, by simp⟩
/-- Elements' cells that are immutable rows are read by their places. -/
theorem TL_gpick {b : Bool} {x y c : Operand} {u v : Value} (hd : Nat.blt d n = true) (hc : ev E c = some (.bool b)) (hx : ev E x = some u) (hy : ev E y = some v) (h : TL r n P ops rest ⟨D, (d, bif b then u else v) :: E, L⟩ K) : TL r n P ops (⟨some d, .pick c x y, ty, pos, af, none⟩ :: rest) ⟨D, E, L⟩ K :=
  TL_y hd rfl (Y_pick hc hx hy) h
end
end Go.SL
