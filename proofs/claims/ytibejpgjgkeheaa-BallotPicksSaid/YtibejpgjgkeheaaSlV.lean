/- The rules of the logic: what only reads; elements with slices in maps. Nothing in this text is about one program. -/
import Derived.Test.YtibejpgjgkeheaaSlN
import Derived.Test.YtibejpgjgkeheaaSlM
import Derived.Test.YtibejpgjgkeheaaSlJ
import Derived.Test.YtibejpgjgkeheaaSlD
import Derived.Test.YtibejpgjgkeheaaSlF
set_option linter.unusedVariables false
set_option linter.unusedSectionVars false
namespace Go.SL
open Go
section
variable {P : Program} {f : FuncId} {args : Array Value} {L : List HP}
/-- What holds of a function wherever φ is known, and leaves all as it was: wherever φ is true of what lies, ours or not. -/
theorem Fn_ro {φ : Mem → Prop} (hm : ∀ {M N : Mem}, M.le N → φ M → φ N) {ψ : Value → Prop} (h : ∀ L, Knows L φ → Fn P f args L (fun v L' => ψ v ∧ L' = L)) (hφ : ∀ M k N, M.disj k → Sep L M k → M.le N → k.le N → φ N) : Fn P f args L (fun v L' => ψ v ∧ L' = L) := fun o w hs => by
  obtain ⟨M, k, hd, hM, hk', hsep⟩ := hs.ex
  have h3 := hφ M k (heapOf w) hd hsep hM hk'
  have hw : Sat o w [base (heapOf w)] := ⟨⟨heapOf w, Mem.emp, Mem.disj_emp _, Mem.le_refl _, Mem.emp_le _, Mem.emp, Mem.emp, Mem.emp_disj _, Mem.emp_le _, Mem.emp_le _, Mem.le_refl _, trivial⟩, hs.os, hs.tape, hs.output, hs.size⟩
  refine (h [base (heapOf w)] (fun N m ⟨_, _, _, _, _, hb, _⟩ => hm hb h3) o w hw).mono ?_
  rintro e w' ⟨v, L', rfl, ⟨hψ, rfl⟩, hs'⟩
  obtain ⟨M', k', _, hM', _, _, _, _, _, _, hb, _⟩ := hs'.ex
  have hle : (heapOf w).le (heapOf w') := Mem.le_trans hb hM'
  exact ⟨v, L, rfl, ⟨hψ, rfl⟩, ⟨⟨M, k, hd, Mem.le_trans hM hle, Mem.le_trans hk' hle, hsep⟩, hs'.os, hs'.tape, hs'.output, hs'.size⟩⟩
theorem sliceAt2_at {α : Type} {M N : Mem} {R : Rep α} {A : Option Addr} {c : Nat} {xs : List α} (hM : M.le N) (h : sliceAt2 M N R A c xs) : sliceAt N R A c xs := by
  obtain ⟨a, b, h⟩ := h
  refine ⟨a, b, h.imp id ?_⟩
  rintro ⟨b, o, rfl, cs, t, fr, hb, hall⟩
  exact ⟨b, o, rfl, cs, t, fr, hb, fun i x hi => let ⟨l, u, v⟩ := hall i x hi; ⟨l, R.mono hM u, v⟩⟩
theorem SlN.dropc {α : Type} {R : Rep α} {A : Option Addr} {c : Nat} {xs : List α} {L : List HP} (h : SlN L R A c xs) {i : Nat} (hi : i ≤ xs.length) (hc : xs.length ≤ c) : SlN L R (cutA A i c R.sz) (c - i) (xs.drop i) := by
  have := h.cut i xs.length c hi (Nat.le_refl _) hc
  rwa [List.take_length] at this
theorem cells_one' {α : Type} {R : Rep α} {x : α} {l : List Value} {L : List HP} (h : Knows L (fun M => R.rep M x l)) : Knows L (fun M => CellsOf M R [x] l) := h.mono fun M h => ⟨l, [], h, rfl, by simp⟩
theorem Fn_ro1 {α : Type} {R : Rep α} {A : Option Addr} {c : Nat} {xs : List α} {ψ : Value → Prop} (h : ∀ L, SlK L R A c xs → Fn P f args L (fun v L' => ψ v ∧ L' = L)) (hk : SlN L R A c xs) : Fn P f args L (fun v L' => ψ v ∧ L' = L) :=
  Fn_ro (φ := fun M => sliceAt M R A c xs) (fun hM h => h.mono hM) h fun M k N hd hs hM hk' => sliceAt2_at hM (hk M k N hd hs hM hk')
end
/-- Data whose cells tell where the rest lies: under its own name. -/
class IsEx {α : Type} (R : Rep α) (β : outParam Type) (sz : outParam Nat) (f : outParam (α → β → List Value)) (g : outParam (α → β → List HP)) (ok : outParam (α → Prop)) : Prop where
  e : ∃ hlen hone, R = exR sz f g ok hlen hone
section
variable {r : Option Nat} {n : Nat} {P : Program} {ops : Array Oper} {rest : List Oper} {KK : St → Prop} {Q : Exit → St → Prop} {D : List Deferred} {E : Env} {L L0 : List HP} {d : Nat} {ty : TypeId} {pos : String} {af : Array Edge}
variable {α β κ : Type} [DecidableEq κ] {sz : Nat} {f : α → β → List Value} {g : α → β → List HP} {ok : α → Prop} {hlen : ∀ x p, (f x p).length = sz} {hone : ∀ x p, oneN (f x p) = true} {K : KeyT κ} {b : Nat} {m : List (κ × α)}
theorem oneN_of : ∀ {l : List Value}, (∀ v ∈ l, v.oneCell' = true) → oneN l = true
  | [], _ => rfl
  | v :: l, h => by
    unfold oneN
    rw [h v List.mem_cons_self, oneN_of fun u hu => h u (List.mem_cons_of_mem _ hu)]; rfl
theorem Y_max {x y : Operand} {t t' : TypeId} {k : IntKind} {a b : Int} (hx : ev E x = some (.int k a)) (hy : ev E y = some (.int k b)) : Yl P E L (.call { callee := .builtin .max, args := #[x, y], argTypes := #[t, t'] }) ty (.int k (max a b)) := fun n D W ac w dst pos af g ha hs => by
  have e : (if a < b then b else a) = max a b := by omega
  simp [execOp, resolve, invoke, builtin, ha.ev hx, ha.ev hy, Builtin.max_, Builtin.max2, e]
theorem TL_isx {u : α} {l : List Value} (h : ∀ p, l = f u p → ok u → TL r n P ops rest ⟨D, E, g u p ++ L⟩ KK) : TL r n P ops rest ⟨D, E, is (exR sz f g ok hlen hone) u l :: L⟩ KK := fun W a w hh => by
  obtain ⟨p, e, o, hs⟩ := sat_ex hh.2
  exact h p e o W a w ⟨hh.1, hs⟩
theorem TL_lookup_x {R : Rep α} [hR : IsEx R β sz f g ok] {x y : Operand} {t kt et : TypeId} {z : Value} {k : κ} [ht : TyDesc P t (.map kt et)] [hf : FindM L b κ α K R true m L0] [hk : KeyOk P kt K] [hz : TyZero P et z] (hd : Nat.blt d n = true) (hx : ev E x = some (.map (some b))) (hy : ev E y = some (K.enc k)) (hok : K.ok k)
    (h0 : getM m k = none → TL r n P ops rest ⟨D, (d, z) :: E, L⟩ KK) (h1 : ∀ u p, getM m k = some u → ok u → TL r n P ops rest ⟨D, (d, .agg (f u p).toArray) :: E, g u p ++ (omap K R true b m :: L0)⟩ KK) :
    TL r n P ops (⟨some d, .lookup t x y false, ty, pos, af, none⟩ :: rest) ⟨D, E, L⟩ KK := by
  obtain ⟨hlen, hone, rfl⟩ := hR.e
  exact TL_lookup hd hx hy hok h0 fun u cs hu => TL_isx fun p e ho => by subst e; exact h1 u p hu ho
theorem TL_lookup_okx {R : Rep α} [hR : IsEx R β sz f g ok] {x y : Operand} {t kt et : TypeId} {z : Value} {k : κ} [ht : TyDesc P t (.map kt et)] [hf : FindM L b κ α K R true m L0] [hk : KeyOk P kt K] [hz : TyZero P et z] (hd : Nat.blt d n = true) (hx : ev E x = some (.map (some b))) (hy : ev E y = some (K.enc k)) (hok : K.ok k)
    (h0 : getM m k = none → TL r n P ops rest ⟨D, (d, .tuple #[z, .bool false]) :: E, L⟩ KK) (h1 : ∀ u p, getM m k = some u → ok u → TL r n P ops rest ⟨D, (d, .tuple #[.agg (f u p).toArray, .bool true]) :: E, g u p ++ (omap K R true b m :: L0)⟩ KK) :
    TL r n P ops (⟨some d, .lookup t x y true, ty, pos, af, none⟩ :: rest) ⟨D, E, L⟩ KK := by
  obtain ⟨hlen, hone, rfl⟩ := hR.e
  exact TL_lookup_ok hd hx hy hok h0 fun u cs hu => TL_isx fun p e ho => by subst e; exact h1 u p hu ho
theorem T_isx {R : Rep α} [hR : IsEx R β sz f g ok] {c : Code} {u : α} {l : List Value} (h : ∀ p, l = f u p → ok u → T r n P c ⟨D, E, g u p ++ L⟩ Q) : T r n P c ⟨D, E, is R u l :: L⟩ Q := by
  obtain ⟨hlen, hone, rfl⟩ := hR.e
  exact fun W a w hh => by
    obtain ⟨p, e, o, hs⟩ := sat_ex hh.2
    exact h p e o W a w ⟨hh.1, hs⟩
/-- An element's address where the slice lies at its block's front. -/
theorem Y_index_x {R : Rep α} {x i : Operand} {t e : TypeId} {ik : IntKind} {j k g c : Nat} {xs : List α} {u : α} [ht : TyDesc P t (.slice e)] [hz : TySize P e R.sz] (hx : ev E x = some (.slice (some ⟨g, 0, none⟩) k c)) (hi : ev E i = some (.int ik (j : Int))) (hkl : k = xs.length) (hu : xs[j]? = some u) :
    Yl P E L (.indexAddr t x i) ty (.pointer (some ⟨g, j * R.sz + 0, none⟩)) := (Y_index_n (R := R) (xs := xs) hx hi hkl hu).val (by rw [Nat.zero_add])
theorem set_same {l : List α} {i : Nat} {x : α} (h : l[i]? = some x) : l.set i x = l := by
  obtain ⟨h1, h2⟩ := List.getElem?_eq_some_iff.1 h
  rw [← h2, List.set_getElem_self]
theorem T_name {c : Code} (g : Nat) {v v' : Value} (hl : look E g = some v) (e : v = v') (h : T r n P c ⟨D, (g, v') :: E, L⟩ Q) : T r n P c ⟨D, E, L⟩ Q := by
  subst e
  exact fun W a w hh => h W a w ⟨hh.1.less (look_same hl), hh.2⟩
/-- Ways that come together, seen from inside. -/
theorem T_joinKT {σ : Type} {x c : Code} {kv : Env} (ks : List Nat) (I : σ → Prop) (U : σ → Env → Env) (M : σ → List HP) (hk : keepO ks E = some kv)
    (h1 : T r n P x ⟨D, E, L⟩ (thenS (fun s' => ∃ y, I y ∧ ∀ W a w, Holds n W s' a w → Holds n W ⟨D, U y kv, M y⟩ a w) Q)) (h2 : ∀ y, I y → T r n P c ⟨D, U y kv, M y⟩ Q) : T r n P x ⟨D, E, L⟩ (thenS (fun s' => T r n P c s' Q) Q) :=
  h1.mono fun e s q => by
    cases e with
    | normal =>
      obtain ⟨y, hy, hh⟩ := q
      exact fun W a w h => h2 y hy W a w (hh W a w h)
    | _ => exact q
/-- Whether a key is there; of what is found so many cells are known. -/
theorem TL_hasx {R : Rep α} {x y : Operand} {t kt et : TypeId} {zl : List Value} {k : κ} [ht : TyDesc P t (.map kt et)] [hf : FindM L b κ α K R true m L0] [hk : KeyOk P kt K] [hz : TyZero P et (.agg zl.toArray)] (hd : Nat.blt d n = true) (hx : ev E x = some (.map (some b))) (hy : ev E y = some (K.enc k)) (hok : K.ok k) (hzl : zl.length = R.sz) (hzo : oneN zl = true)
    (h : ∀ cs, cs.length = R.sz → oneN cs = true → TL r n P ops rest ⟨D, (d, .tuple #[.agg cs.toArray, .bool (getM m k).isSome]) :: E, L⟩ KK) :
    TL r n P ops (⟨some d, .lookup t x y true, ty, pos, af, none⟩ :: rest) ⟨D, E, L⟩ KK :=
  TL_val rfl hd rfl (fun _ e => by cases e) fun W a w hh => by
    rcases look_run (P := P) (t := t) (kt := kt) (et := et) (z := .agg zl.toArray) hok true (hh.2.gives hf.g) with ⟨g1, g2⟩ | ⟨u, cs, g1, g2, g3⟩
    · exact ⟨.tuple #[.agg zl.toArray, .bool false], w, L, by simp [execOp, hh.1.ev hx, hh.1.ev hy, g2], hh.2, by have := h zl hzl hzo; rw [g1] at this; exact this⟩
    · obtain ⟨M, q, _, _, _, h1, h2, _, _, _, hi, _⟩ := g2.ex
      have e1 : cs.length = R.sz := R.len hi
      have e2 : oneN cs = true := oneN_of fun v hv => R.one hi v hv
      exact ⟨.tuple #[.agg cs.toArray, .bool true], w, L, by simp [execOp, hh.1.ev hx, hh.1.ev hy, g3, wrapV], hh.2, by have := h cs e1 e2; rw [g1] at this; exact this⟩
end
end Go.SL
