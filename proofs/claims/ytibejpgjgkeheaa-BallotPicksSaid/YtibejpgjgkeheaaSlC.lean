/- The rules of the logic: memory of a known make, functions, calls. Nothing in this text is about one program. -/
import Derived.Test.YtibejpgjgkeheaaSlB
import Derived.Laws.CopyRow
set_option linter.unusedVariables false
set_option linter.unusedSimpArgs false
namespace Go.SL
open Go

/-! ### Lists, reckoned by unfolding -/
def takeN : Nat → List Value → Option (List Value)
  | 0, _ => some []
  | k + 1, x :: l => match takeN k l with
    | some r => some (x :: r)
    | none => none
  | _ + 1, [] => none
def cutN : Nat → Nat → List Value → Option (List Value)
  | 0, k, l => takeN k l
  | i + 1, k, _ :: l => cutN i k l
  | _ + 1, _, [] => none
def overN : List Value → List Value → Option (List Value)
  | l, [] => some l
  | [], _ :: _ => none
  | _ :: l, v :: vs => match overN l vs with
    | some r => some (v :: r)
    | none => none
def setN : Nat → List Value → List Value → Option (List Value)
  | 0, l, vs => overN l vs
  | k + 1, x :: l, vs => match setN k l vs with
    | some r => some (x :: r)
    | none => none
  | _ + 1, [], _ => none
def cellN : List Value → Nat → Option Value
  | [], _ => none
  | x :: _, 0 => some x
  | _ :: l, k + 1 => cellN l k
def oneN : List Value → Bool
  | [] => true
  | v :: l => v.oneCell' && oneN l
def partsOf : Value → Option (List Value)
  | .agg cs => some cs.toList
  | .tuple _ => none
  | v => some [v]
def pullO : Nat → List HP → Option (List HP)
  | 0, L => some L
  | _ + 1, [] => none
  | k + 1, p :: L => match pullO k L with
    | some (q :: R) => some (q :: p :: R)
    | _ => none
def envO : Nat → List Value → Option Env
  | _, [] => some []
  | i, v :: vs => match envO (i + 1) vs with
    | some E => some ((i, v) :: E)
    | none => none

theorem takeN_eq : ∀ {k : Nat} {l vs : List Value}, takeN k l = some vs → vs = l.take k ∧ k ≤ l.length
  | 0, l, vs, h => by simp [takeN] at h; simp [h]
  | k + 1, [], vs, h => by cases h
  | k + 1, x :: l, vs, h => by
    simp only [takeN] at h
    cases e : takeN k l with
    | none => rw [e] at h; cases h
    | some r' =>
      rw [e] at h
      cases h
      obtain ⟨h1, h2⟩ := takeN_eq e
      exact ⟨by simp [h1], by simpa using h2⟩
theorem cutN_eq : ∀ {i k : Nat} {l vs : List Value}, cutN i k l = some vs → vs = (l.drop i).take k ∧ i + k ≤ l.length
  | 0, k, l, vs, h => by
    obtain ⟨h1, h2⟩ := takeN_eq (show takeN k l = some vs by simpa [cutN] using h)
    exact ⟨by simpa using h1, by omega⟩
  | i + 1, k, [], vs, h => by cases h
  | i + 1, k, x :: l, vs, h => by
    obtain ⟨h1, h2⟩ := cutN_eq (show cutN i k l = some vs by simpa [cutN] using h)
    exact ⟨by simpa using h1, by simp; omega⟩
theorem overN_eq : ∀ {l vs rs : List Value}, overN l vs = some rs → rs = vs ++ l.drop vs.length ∧ vs.length ≤ l.length
  | l, [], rs, h => by simp [overN] at h; simp [h]
  | [], _ :: _, rs, h => by cases h
  | x :: l, v :: vs, rs, h => by
    simp only [overN] at h
    cases e : overN l vs with
    | none => rw [e] at h; cases h
    | some r' =>
      rw [e] at h
      cases h
      obtain ⟨h1, h2⟩ := overN_eq e
      exact ⟨by simp [h1], by simpa using h2⟩
theorem setN_eq : ∀ {i : Nat} {l vs rs : List Value}, setN i l vs = some rs → rs = l.take i ++ vs ++ l.drop (i + vs.length) ∧ i + vs.length ≤ l.length
  | 0, l, vs, rs, h => by
    obtain ⟨h1, h2⟩ := overN_eq (show overN l vs = some rs by simpa [setN] using h)
    exact ⟨by simpa using h1, by omega⟩
  | i + 1, [], vs, rs, h => by cases h
  | i + 1, x :: l, vs, rs, h => by
    simp only [setN] at h
    cases e : setN i l vs with
    | none => rw [e] at h; cases h
    | some r' =>
      rw [e] at h
      cases h
      obtain ⟨h1, h2⟩ := setN_eq e
      refine ⟨?_, by simp; omega⟩
      rw [h1, show i + 1 + vs.length = (i + vs.length) + 1 by omega]
      simp
theorem cellN_eq : ∀ {l : List Value} {i : Nat} {v : Value}, cellN l i = some v → l[i]? = some v
  | [], _, _, h => by cases h
  | x :: l, 0, v, h => by simpa [cellN] using h
  | x :: l, k + 1, v, h => by simpa [cellN] using cellN_eq (show cellN l k = some v by simpa [cellN] using h)
theorem oneN_mem : ∀ {l : List Value}, oneN l = true → ∀ v ∈ l, v.oneCell' = true
  | [], _, v, hv => by cases hv
  | x :: l, h, v, hv => by
    simp only [oneN, Bool.and_eq_true] at h
    rcases List.mem_cons.1 hv with rfl | hv
    · exact h.1
    · exact oneN_mem h.2 v hv
theorem partsOf_eq {v : Value} {cs : List Value} (h : partsOf v = some cs) : v.cells = cs.toArray := by
  cases v <;> simp [partsOf] at h <;> simp [Value.cells, ← h]
theorem pullO_eq : ∀ {k : Nat} {L L' : List HP}, pullO k L = some L' → Gives L L'
  | 0, L, L', h => by simp [pullO] at h; subst h; exact Gives.refl _
  | k + 1, [], L', h => by cases h
  | k + 1, p :: L, L', h => by
    simp only [pullO] at h
    split at h
    · rename_i q R e
      cases h
      exact (Gives.cons p (pullO_eq e)).trans (Gives.swap p q R)
    · cases h
theorem envO_look : ∀ {vs : List Value} {i : Nat} {E : Env}, envO i vs = some E → ∀ j v, look E j = some v → i ≤ j ∧ vs[j - i]? = some v
  | [], i, E, h, j, v, hv => by simp [envO] at h; subst h; cases hv
  | u :: vs, i, E, h, j, v, hv => by
    simp only [envO] at h
    cases e : envO (i + 1) vs with
    | none => rw [e] at h; cases h
    | some E' =>
      rw [e] at h
      cases h
      simp only [look] at hv
      cases e2 : Nat.beq i j with
      | true =>
        rw [e2] at hv
        have : i = j := Nat.eq_of_beq_eq_true e2
        subst this
        simp only [cond_true, Option.some.injEq] at hv
        simp [hv]
      | false =>
        rw [e2] at hv
        obtain ⟨h1, h2⟩ := envO_look e j v hv
        refine ⟨by omega, ?_⟩
        rw [show j - i = (j - (i + 1)) + 1 by omega]
        simpa using h2

/-! ### Assertions on rows of cells -/
/-- Block b is a row of just these cells, ours. -/
def cells (b : Nat) (l : List Value) (t : TypeId) : HP := own b (.cells l.toArray t (0, 0))
/-- From place o on block b holds these cells; nobody writes them. -/
def rowAt (M : Mem) (b o : Nat) (l : List Value) : Prop := ∃ c t fr, M b = some (.cells c t fr) ∧ ∀ j v, l[j]? = some v → c[o + j]? = some v
def row (b o : Nat) (l : List Value) : HP := pers (fun M => rowAt M b o l) (fun hM ⟨c, t, fr, h, k⟩ => ⟨c, t, fr, hM _ _ h, k⟩)
instance {b o : Nat} {l : List Value} : Pers (row b o l) := ⟨fun _ _ h => h⟩
theorem Knows.head' {p : HP} {L : List HP} {φ : Mem → Prop} (h : ∀ M k, p.holds M k → φ M) : Knows (p :: L) φ := fun M m ⟨_, _, _, _, _, hp, _⟩ => h _ _ hp
theorem cell_of {w : World} {b i : Nat} {c : Array Value} {t : TypeId} {fr : Nat × Nat} (h : w.heap[b]? = some (.cells c t fr)) : w.cell? ⟨b, i, none⟩ = c[i]? := by simp [World.cell?, h]
theorem Addr.add_plain (b o j : Nat) : (⟨b, o, none⟩ : Addr).add j = ⟨b, o + j, none⟩ := by unfold Addr.add; split <;> simp_all
theorem rowAt.cell {M : Mem} {w : World} {b o j : Nat} {l : List Value} {v : Value} (h : rowAt M b o l) (hM : M.le (heapOf w)) (hj : l[j]? = some v) : w.cell? ⟨b, o + j, none⟩ = some v := by
  obtain ⟨c, t, fr, hb, hc⟩ := h
  rw [cell_of (hM _ _ hb)]
  exact hc _ _ hj
theorem rowAt.cut {M : Mem} {b o i : Nat} {l : List Value} (k : Nat) (h : rowAt M b o l) : rowAt M b (o + i) ((l.drop i).take k) := by
  obtain ⟨c, t, fr, hb, hc⟩ := h
  refine ⟨c, t, fr, hb, fun j v hv => ?_⟩
  rw [List.getElem?_take] at hv
  split at hv
  · rw [List.getElem?_drop] at hv
    rw [Nat.add_assoc]
    exact hc _ _ hv
  · cases hv

section
variable {r : Option Nat} {n : Nat} {P : Program} {ops : Array Oper} {rest : List Oper} {K : St → Prop} {Q : Exit → St → Prop} {D : List Deferred} {E : Env} {L L' : List HP} {d : Nat} {ty : TypeId} {pos : String} {af : Array Edge}

theorem Sat.cells_at {o w : World} {b : Nat} {l : List Value} {t : TypeId} (h : Sat o w (cells b l t :: L)) : w.heap[b]? = some (.cells l.toArray t (0, 0)) := h.own_at
theorem Sat.cell {o w : World} {b i : Nat} {l : List Value} {t : TypeId} {v : Value} (h : Sat o w (cells b l t :: L)) (hv : l[i]? = some v) : w.cell? ⟨b, i, none⟩ = some v := by
  rw [cell_of h.cells_at]
  simpa using hv
/-- A row of ours is turned. -/
theorem Sat.setRow {o w : World} {b : Nat} {l l' : List Value} {t : TypeId} (h : Sat o w (cells b l t :: L)) : Sat o (w.setRow b l'.toArray) (cells b l' t :: L) := by
  have hb := h.cells_at
  refine Sat.set h (y := .cells l'.toArray t (0, 0)) ?_ (fun i hi => ?_) rfl rfl rfl (by simp [World.setRow])
  · simp only [World.setRow, Array.getElem?_modify, if_true, hb, Option.map_some]
  · simp only [World.setRow, Array.getElem?_modify]
    rw [if_neg (Ne.symm hi)]

theorem TL_pullO {k : Nat} (e : pullO k L = some L') (h : TL r n P ops rest ⟨D, E, L'⟩ K) : TL r n P ops rest ⟨D, E, L⟩ K := TL_gives (pullO_eq e) h
theorem T_pullO {c : Code} {k : Nat} (e : pullO k L = some L') (h : T r n P c ⟨D, E, L'⟩ Q) : T r n P c ⟨D, E, L⟩ Q := T_gives (pullO_eq e) h
theorem freeze_cells {o w : World} {b : Nat} {l : List Value} {t : TypeId} (h : Sat o w (cells b l t :: L)) : Sat o w (row b 0 l :: L) :=
  (Sat.freeze h).gives fun M k ⟨h1, h2, hd, l1, l2, hp, hs⟩ => ⟨h1, h2, hd, l1, l2, ⟨_, _, _, hp, fun j v hv => by simpa using hv⟩, hs⟩
/-- A row of ours is nobody's any more. -/
theorem TL_freeze {b : Nat} {l : List Value} {t : TypeId} (h : TL r n P ops rest ⟨D, E, row b 0 l :: L⟩ K) : TL r n P ops rest ⟨D, E, cells b l t :: L⟩ K := fun W a w hh => h W a w ⟨hh.1, freeze_cells hh.2⟩
theorem T_freeze {c : Code} {b : Nat} {l : List Value} {t : TypeId} (h : T r n P c ⟨D, E, row b 0 l :: L⟩ Q) : T r n P c ⟨D, E, cells b l t :: L⟩ Q := fun W a w hh => h W a w ⟨hh.1, freeze_cells hh.2⟩

/-- The row of block b is found among L; R: all else. -/
class FindC (L : List HP) (b : Nat) (l : outParam (List Value)) (t : outParam TypeId) (R : outParam (List HP)) : Prop where
  g : Gives L (cells b l t :: R)
instance findC_tail {p : HP} {L R : List HP} {b : Nat} {l : List Value} {t : TypeId} [h : FindC L b l t R] : FindC (p :: L) b l t (p :: R) := ⟨(Gives.cons p h.g).trans (Gives.swap p _ R)⟩
instance findC_head {L : List HP} {b : Nat} {l : List Value} {t : TypeId} : FindC (cells b l t :: L) b l t L := ⟨Gives.refl _⟩
/-- A row that nobody writes, from place o on block b on, is found among L. -/
class FindR (L : List HP) (b o : Nat) (l : outParam (List Value)) : Prop where
  k : Knows L (fun M => rowAt M b o l)
instance findR_tail {p : HP} {L : List HP} {b o : Nat} {l : List Value} [h : FindR L b o l] : FindR (p :: L) b o l := ⟨Knows.tail h.k⟩
instance findR_head {L : List HP} {b o : Nat} {l : List Value} : FindR (row b o l :: L) b o l := ⟨Knows.head' fun _ _ h => h⟩

/-! ### Boxes -/
theorem TL_box {x : Operand} {t : TypeId} {v : Value} {cs : List Value} (hd : Nat.blt d n = true) (hx : ev E x = some v) (hc : partsOf v = some cs) (h : ∀ b, TL r n P ops rest ⟨D, (d, .pointer (some ⟨b, 0, none⟩)) :: E, cells b cs t :: L⟩ K) :
    TL r n P ops (⟨some d, .box t x, ty, pos, af, none⟩ :: rest) ⟨D, E, L⟩ K :=
  TL_val rfl hd rfl (fun _ e => by cases e) fun W a w hh => ⟨_, w.alloc (.cells cs.toArray t), _, by simp only [execOp, hh.1.ev hx, Instr.box, newVar, newRow, newObj, partsOf_eq hc]; rfl, hh.2.alloc _, h w.heap.size⟩
theorem TL_alloc {t : TypeId} {v : Value} {cs : List Value} [hz : TyZero P t v] (hd : Nat.blt d n = true) (hc : partsOf v = some cs) (h : ∀ b, TL r n P ops rest ⟨D, (d, .pointer (some ⟨b, 0, none⟩)) :: E, cells b cs t :: L⟩ K) :
    TL r n P ops (⟨some d, .alloc t, ty, pos, af, none⟩ :: rest) ⟨D, E, L⟩ K :=
  TL_val rfl hd rfl (fun _ e => by cases e) fun W a w hh => ⟨_, w.alloc (.cells cs.toArray t), _, by
    simp only [execOp, Instr.alloc, Sem.run_bind, hz.run, Result.andThen_ok, newVar, newRow, newObj, partsOf_eq hc]; rfl, hh.2.alloc _, h w.heap.size⟩

/-! ### Addresses -/
theorem Y_field_addr {x : Operand} {t ft : TypeId} {i b o off : Nat} [hf : TyField P t i off ft] (hx : ev E x = some (.pointer (some ⟨b, o, none⟩))) : Yl P E L (.fieldAddr t x i) ty (.pointer (some ⟨b, o + off, none⟩)) := fun n D W a w dst pos af g ha hs => by
  obtain ⟨fs, f, h1, h2, rfl, rfl, k, hk, h3⟩ := hf.run
  simp only [execOp, ha.ev hx, Instr.fieldAt, Sem.run_bind, h1, Result.andThen_ok, h2, Instr.sureAddr, Sem.run_pure, fieldPlace, h3, hk, if_false, Addr.add_plain]
/-- A field of a field: the places are added. -/
theorem Y_field_addr2 {x : Operand} {t ft : TypeId} {i b o p off : Nat} [hf : TyField P t i off ft] (hx : ev E x = some (.pointer (some ⟨b, o + p, none⟩))) : Yl P E L (.fieldAddr t x i) ty (.pointer (some ⟨b, o + (p + off), none⟩)) :=
  (Y_field_addr hx).val (by rw [Nat.add_assoc])

/-! ### Loads and stores -/
theorem run_loadVar_one {t : TypeId} [ht : TyAgg P t false] {w : World} {ad : Addr} {v : Value} (h : w.cell? ad = some v) : (loadVar t ad).run P w = .ok v w := by
  simp only [loadVar, Sem.run_bind, ht.run, Result.andThen_ok, Bool.false_eq_true, if_false, load, Sem.run, h]
theorem run_loadVar_agg {t : TypeId} {k : Nat} [ht : TyAgg P t true] [hs : TySize P t k] {w : World} {b o : Nat} {vs : List Value} (hk : vs.length = k) (h : ∀ j v, vs[j]? = some v → w.cell? ⟨b, o + j, none⟩ = some v) :
    (loadVar t ⟨b, o, none⟩).run P w = .ok (.agg vs.toArray) w := by
  subst hk
  simp only [loadVar, Sem.run_bind, ht.run, Result.andThen_ok, if_true, hs.run, run_loadCells_list w ⟨b, o, none⟩ vs (fun j v hv => by rw [Addr.add_plain]; exact h j v hv), Sem.run_pure]
theorem Sat.load_one {o w : World} {b i : Nat} {l : List Value} {t tt : TypeId} {v : Value} [ht : TyAgg P tt false] (h : Sat o w (cells b l t :: L)) (hv : cellN l i = some v) : (loadVar tt ⟨b, i, none⟩).run P w = .ok v w :=
  run_loadVar_one (h.cell (cellN_eq hv))
theorem Sat.load_agg {o w : World} {b i k : Nat} {l vs : List Value} {t tt : TypeId} [ht : TyAgg P tt true] [hs : TySize P tt k] (h : Sat o w (cells b l t :: L)) (hv : cutN i k l = some vs) : (loadVar tt ⟨b, i, none⟩).run P w = .ok (.agg vs.toArray) w := by
  obtain ⟨e, hl⟩ := cutN_eq hv
  refine run_loadVar_agg (hk := ?_) fun j v hj => h.cell ?_
  · rw [e]; simp; omega
  · rw [e, List.getElem?_take] at hj
    split at hj
    · rw [List.getElem?_drop] at hj; exact hj
    · cases hj
theorem Y_load {x : Operand} {t tt : TypeId} {b i : Nat} {l : List Value} {v : Value} {R : List HP} [ht : TyAgg P t false] (hx : ev E x = some (.pointer (some ⟨b, i, none⟩))) [hc : FindC L b l tt R] (hv : cellN l i = some v) : Yl P E L (.load t x) ty v := fun n D W a w dst pos af g ha hs => by
  simp only [execOp, ha.ev hx, Instr.loadAt, Instr.sureAddr, Sem.run_bind, Sem.run_pure, Result.andThen_ok, Sat.load_one (hs.gives hc.g) hv]
theorem Y_load_agg {x : Operand} {t tt : TypeId} {b i m : Nat} {l vs : List Value} {R : List HP} [ht : TyAgg P t true] [hz : TySize P t m] (hx : ev E x = some (.pointer (some ⟨b, i, none⟩))) [hc : FindC L b l tt R] (hv : cutN i m l = some vs) : Yl P E L (.load t x) ty (.agg vs.toArray) := fun n D W a w dst pos af g ha hs => by
  simp only [execOp, ha.ev hx, Instr.loadAt, Instr.sureAddr, Sem.run_bind, Sem.run_pure, Result.andThen_ok, Sat.load_agg (hs.gives hc.g) hv]
/-- Of a row that nobody writes. -/
theorem Y_load_row {x : Operand} {t : TypeId} {b o j : Nat} {l : List Value} {v : Value} [ht : TyAgg P t false] (hx : ev E x = some (.pointer (some ⟨b, o + j, none⟩))) [hc : FindR L b o l] (hv : cellN l j = some v) : Yl P E L (.load t x) ty v := fun n D W a w dst pos af g ha hs => by
  obtain ⟨M, hM, hr⟩ := hs.knows hc.k
  simp only [execOp, ha.ev hx, Instr.loadAt, Instr.sureAddr, Sem.run_bind, Sem.run_pure, Result.andThen_ok, run_loadVar_one (hr.cell hM (cellN_eq hv))]
theorem Y_load_row_agg {x : Operand} {t : TypeId} {b o j m : Nat} {l vs : List Value} [ht : TyAgg P t true] [hz : TySize P t m] (hx : ev E x = some (.pointer (some ⟨b, o + j, none⟩))) [hc : FindR L b o l] (hv : cutN j m l = some vs) : Yl P E L (.load t x) ty (.agg vs.toArray) := fun n D W a w dst pos af g ha hs => by
  obtain ⟨M, hM, hr⟩ := hs.knows hc.k
  obtain ⟨e, hl⟩ := cutN_eq hv
  have hrun := run_loadVar_agg (P := P) (t := t) (w := w) (b := b) (o := o + j) (vs := vs) (k := m) (hk := by rw [e]; simp; omega) (fun i v hi => (hr.cut m).cell hM (by rw [← e]; exact hi))
  simp only [execOp, ha.ev hx, Instr.loadAt, Instr.sureAddr, Sem.run_bind, Sem.run_pure, Result.andThen_ok, hrun]
theorem run_storeVar {t tt : TypeId} {m b i : Nat} {o w : World} {l l' vs : List Value} {v : Value} [hs : TySize P t m] (h : Sat o w (cells b l tt :: L)) (hp : partsOf v = some vs) (hm : Nat.beq vs.length m = true) (h1 : oneN vs = true) (hl : setN i l vs = some l') :
    (storeVar t ⟨b, i, none⟩ v).run P w = .ok () (w.setRow b l'.toArray) := by
  have hm' : vs.length = m := Nat.eq_of_beq_eq_true hm
  obtain ⟨e, hle⟩ := setN_eq hl
  simp only [storeVar, partsOf_eq hp, Sem.run_bind, hs.run, Result.andThen_ok, List.size_toArray, hm', ne_eq, not_true_eq_false, if_false, Sem.run_pure]
  have := run_storeCells_at P b i tt vs 0 l.toArray w h.cells_at (by simpa using hle) (oneN_mem h1)
  simp only [Nat.add_zero] at this
  rw [e]
  simpa using this
theorem TL_store {x y : Operand} {t tt : TypeId} {b i m : Nat} {l l' vs : List Value} {v : Value} {R : List HP} [hz : TySize P t m] (hx : ev E x = some (.pointer (some ⟨b, i, none⟩))) (hy : ev E y = some v) [hc : FindC L b l tt R] (hp : partsOf v = some vs)
    (hm : Nat.beq vs.length m = true) (h1 : oneN vs = true) (hl : setN i l vs = some l') (h : TL r n P ops rest ⟨D, E, cells b l' tt :: R⟩ K) : TL r n P ops (⟨none, .store t x y, ty, pos, af, none⟩ :: rest) ⟨D, E, L⟩ K :=
  TL_skip rfl rfl (fun _ e => by cases e) fun W a w hh => by
    have hsat := hh.2.gives hc.g
    refine ⟨.skip, w.setRow b l'.toArray, cells b l' tt :: R, ?_, .inl rfl, hsat.setRow, h⟩
    simp only [execOp, hh.1.ev hx, hh.1.ev hy, Instr.storeAt, Instr.sureAddr, Sem.run_bind, Sem.run_pure, Result.andThen_ok, run_storeVar hsat hp hm h1 hl]

/-! ### Values of several cells -/
theorem Y_field {x : Operand} {t ft : TypeId} {i off : Nat} {l : List Value} {v : Value} [hf : TyField P t i off ft] [hg : TyAgg P ft false] (hx : ev E x = some (.agg l.toArray)) (hv : cellN l off = some v) : Yl P E L (.field t x i) ty v := fun n D W a w dst pos af g ha hs => by
  obtain ⟨fs, f, h1, h2, rfl, rfl, k, hk, h3⟩ := hf.run
  have := cellN_eq hv
  simp only [execOp, ha.ev hx, Instr.field, Sem.run_bind, h1, Result.andThen_ok, h2, asAgg, Sem.run_pure, part, hg.run, Bool.false_eq_true, if_false, List.getElem?_toArray, this]
theorem Y_field_agg {x : Operand} {t ft : TypeId} {i off m : Nat} {l vs : List Value} [hf : TyField P t i off ft] [hg : TyAgg P ft true] [hz : TySize P ft m] (hx : ev E x = some (.agg l.toArray)) (hv : cutN off m l = some vs) : Yl P E L (.field t x i) ty (.agg vs.toArray) := fun n D W a w dst pos af g ha hs => by
  obtain ⟨fs, f, h1, h2, rfl, rfl, k, hk, h3⟩ := hf.run
  obtain ⟨e, hl⟩ := cutN_eq hv
  have e2 : l.toArray.extract f.offset (f.offset + m) = vs.toArray := by
    rw [e]; simp
  simp only [execOp, ha.ev hx, Instr.field, Sem.run_bind, h1, Result.andThen_ok, h2, asAgg, Sem.run_pure, part, hg.run, if_true, hz.run, e2]

/-! ### Functions and calls -/
def RetQ (P : Program) (fn : Func) (Φ : Value → List HP → Prop) : Exit → St → Prop
  | .ret, s => s.D = [] ∧ ∃ v L', Φ v L' ∧ ∀ n W a w, Holds n W s a w → Sat W w L' ∧ (results fn a.tmps).run P w = .ok v w
  | .normal, s => s.D = [] ∧ ∃ v L', Φ v L' ∧ ∀ n W a w, Holds n W s a w → Sat W w L' ∧ (results fn a.tmps).run P w = .ok v w
  | _, _ => False
theorem Fn_enter {f : FuncId} {fn : Func} {c : Code} {args : List Value} {E0 : Env} {Φ : Value → List HP → Prop} (hf : P.funcs[f]? = some fn) (hb : fn.body = some c) (hn : fn.ntmps = n) (hE : envO 0 args = some E0) (hl : Nat.ble args.length n = true)
    (h : T none n P c ⟨[], E0, L⟩ (RetQ P fn Φ)) : Fn P f args.toArray L Φ := fun W w hs => by
  refine callsIn_wide.1 (callsIn_of_wp (F := Fence.wide) (n := 0) hf hb trivial ?_)
  have hsz : args.length ≤ n := by simpa using hl
  have hview : View n [] { tmps := args.toArray ++ Array.replicate (fn.ntmps - args.toArray.size) undef, defers := [] } E0 := by
    refine ⟨by simp [hn]; omega, rfl, fun j v hv => ?_⟩
    obtain ⟨_, h2⟩ := envO_look hE j v hv
    simp only [Nat.sub_zero] at h2
    have hj : j < args.length := (List.getElem?_eq_some_iff.1 h2).1
    simp [Array.getElem?_append, hj]
    simpa [List.getElem?_eq_getElem hj] using h2
  refine wpIn_mono (h W _ w ⟨hview, hs⟩) ?_
  rintro e a' w' ⟨s', q, hk⟩
  cases e <;> simp only [RetQ] at q
  case normal =>
    obtain ⟨hD, v, L', hΦ, hr⟩ := q
    obtain ⟨h1, h2⟩ := hr _ _ _ _ hk
    exact ⟨hk.1.defers.trans hD, v, h2, v, L', rfl, hΦ, h1⟩
  case ret =>
    obtain ⟨hD, v, L', hΦ, hr⟩ := q
    obtain ⟨h1, h2⟩ := hr _ _ _ _ hk
    exact ⟨hk.1.defers.trans hD, v, h2, v, L', rfl, hΦ, h1⟩
def resSem (tmps : Array Value) : ResultVar → Sem Value
  | .tmp t => Pure.pure (tmps.getD t undef)
  | .cell c t => do loadVar t (← asAddr (tmps.getD c undef))
theorem results_eq (fn : Func) (tmps : Array Value) : results fn tmps = (do let vs ← fn.results.mapM (resSem tmps); Pure.pure (if h : vs.size = 1 then vs[0] else .tuple vs)) := rfl
/-- A result is reckoned so. -/
def ResV (P : Program) (E : Env) (L : List HP) (x : ResultVar) (v : Value) : Prop :=
  ∀ n D W a w, Holds n W ⟨D, E, L⟩ a w → (resSem a.tmps x).run P w = .ok v w
theorem ResV.tmp {t : Tmp} {v : Value} (h : look E t = some v) : ResV P E L (.tmp t) v := fun n D W a w hh => by
  have := hh.1.get t v h
  simp [resSem, this]
theorem ResV.cell {c b : Nat} {t tt : TypeId} {l : List Value} {v : Value} {R : List HP} [TyAgg P t false] (h : look E c = some (.pointer (some ⟨b, 0, none⟩))) [hc : FindC L b l tt R] (hv : cellN l 0 = some v) : ResV P E L (.cell c t) v := fun n D W a w hh => by
  have := hh.1.get c _ h
  simp only [resSem, Array.getD_eq_getD_getElem?, this, Option.getD_some, asAddr, Sem.run_bind, Sem.run_pure, Result.andThen_ok, Sat.load_one (hh.2.gives hc.g) hv]
theorem ResV.agg {c b m : Nat} {t tt : TypeId} {l vs : List Value} {R : List HP} [TyAgg P t true] [TySize P t m] (h : look E c = some (.pointer (some ⟨b, 0, none⟩))) [hc : FindC L b l tt R] (hv : cutN 0 m l = some vs) : ResV P E L (.cell c t) (.agg vs.toArray) := fun n D W a w hh => by
  have := hh.1.get c _ h
  simp only [resSem, Array.getD_eq_getD_getElem?, this, Option.getD_some, asAddr, Sem.run_bind, Sem.run_pure, Result.andThen_ok, Sat.load_agg (hh.2.gives hc.g) hv]
section rets
variable {fn : Func} {Φ : Value → List HP → Prop} {x y z : ResultVar} {u v t : Value} {e : Exit}
theorem Ret_0 (he : e = .ret ∨ e = .normal) (hr : fn.results = #[]) (h : Φ (.tuple #[]) L) : RetQ P fn Φ e ⟨[], E, L⟩ := by
  have key : ∃ v L', Φ v L' ∧ ∀ n W a w, Holds n W ⟨[], E, L⟩ a w → Sat W w L' ∧ (results fn a.tmps).run P w = .ok v w := ⟨_, L, h, fun n W a w hh => ⟨hh.2, by simp [results, hr]⟩⟩
  rcases he with rfl | rfl <;> exact ⟨rfl, key⟩
theorem Ret_1 (he : e = .ret ∨ e = .normal) (hr : fn.results = #[x]) (hx : ResV P E L x v) (h : Φ v L) : RetQ P fn Φ e ⟨[], E, L⟩ := by
  have key : ∃ v L', Φ v L' ∧ ∀ n W a w, Holds n W ⟨[], E, L⟩ a w → Sat W w L' ∧ (results fn a.tmps).run P w = .ok v w := ⟨_, L, h, fun n W a w hh => ⟨hh.2, by
    rw [results_eq, hr]; simp [hx n [] W a w hh]⟩⟩
  rcases he with rfl | rfl <;> exact ⟨rfl, key⟩
theorem Ret_2 (he : e = .ret ∨ e = .normal) (hr : fn.results = #[x, y]) (hx : ResV P E L x u) (hy : ResV P E L y v) (h : Φ (.tuple #[u, v]) L) : RetQ P fn Φ e ⟨[], E, L⟩ := by
  have key : ∃ v L', Φ v L' ∧ ∀ n W a w, Holds n W ⟨[], E, L⟩ a w → Sat W w L' ∧ (results fn a.tmps).run P w = .ok v w := ⟨_, L, h, fun n W a w hh => ⟨hh.2, by
    rw [results_eq, hr]; simp [hx n [] W a w hh, hy n [] W a w hh]⟩⟩
  rcases he with rfl | rfl <;> exact ⟨rfl, key⟩
theorem Ret_3 (he : e = .ret ∨ e = .normal) (hr : fn.results = #[x, y, z]) (hx : ResV P E L x u) (hy : ResV P E L y v) (hz : ResV P E L z t) (h : Φ (.tuple #[u, v, t]) L) : RetQ P fn Φ e ⟨[], E, L⟩ := by
  have key : ∃ v L', Φ v L' ∧ ∀ n W a w, Holds n W ⟨[], E, L⟩ a w → Sat W w L' ∧ (results fn a.tmps).run P w = .ok v w := ⟨_, L, h, fun n W a w hh => ⟨hh.2, by
    rw [results_eq, hr]; simp [hx n [] W a w hh, hy n [] W a w hh, hz n [] W a w hh]⟩⟩
  rcases he with rfl | rfl <;> exact ⟨rfl, key⟩
theorem RetQ.gives (g : Gives L L') (h : RetQ P fn Φ e ⟨D, E, L'⟩) : RetQ P fn Φ e ⟨D, E, L⟩ := by
  cases e <;> simp only [RetQ] at h ⊢
  case ret => exact ⟨h.1, let ⟨v, L1, a, b⟩ := h.2; ⟨v, L1, a, fun n W a w hh => b n W a w (hh.gives g)⟩⟩
  case normal => exact ⟨h.1, let ⟨v, L1, a, b⟩ := h.2; ⟨v, L1, a, fun n W a w hh => b n W a w (hh.gives g)⟩⟩
end rets

theorem Fn.into {f : FuncId} {args : Array Value} {Φ : Value → List HP → Prop} {W w : World} (h : Fn P f args L Φ) (hs : Sat W w L) : CallsIn (Fw r) 0 P f args w fun e w' => ∃ v L', e = .returned v ∧ Φ v L' ∧ Sat W w' L' := callsIn_wide.2 (h W w hs)
theorem TL_enter {op : Op} {f : FuncId} {args : Array Value} {Φ : Value → List HP → Prop} (hd : Nat.blt d n = true) (hnd : ∀ c, op ≠ .defer c) (hop : ∀ a w, View n D a E → (execOp a.eval ⟨some d, op, ty, pos, af, none⟩).run P w = .ok (.enter f args) w)
    (spec : Fn P f args L Φ) (h : ∀ v L', Φ v L' → TL r n P ops rest ⟨D, (d, v) :: E, L'⟩ K) : TL r n P ops (⟨some d, op, ty, pos, af, none⟩ :: rest) ⟨D, E, L⟩ K := fun W a w hh => by
  refine wpListIn_plain rfl fun K' hK => ⟨fun _ _ => trivial, ?_⟩
  rw [Oper.semAt_eq _ _ _ hnd, hop a w hh.1]
  refine ⟨fun hx => by simp at hx, (spec.into hh.2).mono ?_⟩
  rintro e w' ⟨v, L', rfl, hΦ, hs⟩
  exact hK _ _ (h v L' hΦ W _ _ ⟨hh.1.put (by simpa using hd) v, hs⟩)
theorem TL_enter0 {op : Op} {f : FuncId} {args : Array Value} {Φ : Value → List HP → Prop} (hnd : ∀ c, op ≠ .defer c) (hop : ∀ a w, View n D a E → (execOp a.eval ⟨none, op, ty, pos, af, none⟩).run P w = .ok (.enter f args) w)
    (spec : Fn P f args L Φ) (h : ∀ v L', Φ v L' → TL r n P ops rest ⟨D, E, L'⟩ K) : TL r n P ops (⟨none, op, ty, pos, af, none⟩ :: rest) ⟨D, E, L⟩ K := fun W a w hh => by
  refine wpListIn_plain rfl fun K' hK => ⟨fun _ _ => trivial, ?_⟩
  rw [Oper.semAt_eq _ _ _ hnd, hop a w hh.1]
  refine ⟨fun hx => by simp at hx, (spec.into hh.2).mono ?_⟩
  rintro e w' ⟨v, L', rfl, hΦ, hs⟩
  exact hK _ _ (h v L' hΦ W _ _ ⟨hh.1, hs⟩)
theorem run_call {f : FuncId} [hc : IsCall P f] {xs : List Operand} {vs : List Value} {ts : Array TypeId} {a : Act} {w : World} {dst : Option Tmp} (ha : View n D a E) (hx : evl E xs = some vs) :
    (execOp a.eval ⟨dst, .call { callee := .value (.func f), args := xs.toArray, argTypes := ts }, ty, pos, af, none⟩).run P w = .ok (.enter f vs.toArray) w := by
  simp [execOp, resolve, invoke, Act.eval, Deferred.ofValue, ha.evl hx, hc.run]
theorem TL_call {f : FuncId} [hc : IsCall P f] {xs : List Operand} {vs : List Value} {ts : Array TypeId} {Φ : Value → List HP → Prop} (hd : Nat.blt d n = true) (hx : evl E xs = some vs) (spec : Fn P f vs.toArray L Φ) (h : ∀ v L', Φ v L' → TL r n P ops rest ⟨D, (d, v) :: E, L'⟩ K) :
    TL r n P ops (⟨some d, .call { callee := .value (.func f), args := xs.toArray, argTypes := ts }, ty, pos, af, none⟩ :: rest) ⟨D, E, L⟩ K :=
  TL_enter hd (fun _ e => by cases e) (fun a w ha => run_call ha hx) spec h
theorem TL_call0 {f : FuncId} [hc : IsCall P f] {xs : List Operand} {vs : List Value} {ts : Array TypeId} {Φ : Value → List HP → Prop} (hx : evl E xs = some vs) (spec : Fn P f vs.toArray L Φ) (h : ∀ v L', Φ v L' → TL r n P ops rest ⟨D, E, L'⟩ K) :
    TL r n P ops (⟨none, .call { callee := .value (.func f), args := xs.toArray, argTypes := ts }, ty, pos, af, none⟩ :: rest) ⟨D, E, L⟩ K :=
  TL_enter0 (fun _ e => by cases e) (fun a w ha => run_call ha hx) spec h
theorem run_call_fn {f : FuncId} [hc : IsCall P f] {c : Operand} {xs : List Operand} {vs fs cs : List Value} {ts : Array TypeId} {a : Act} {w : World} {dst : Option Tmp} (ha : View n D a E) (hf : ev E c = some (.func (.func f) fs.toArray cs.toArray)) (hx : evl E xs = some vs) :
    (execOp a.eval ⟨dst, .call { callee := .value c, args := xs.toArray, argTypes := ts }, ty, pos, af, none⟩).run P w = .ok (.enter f (fs ++ vs ++ cs).toArray) w := by
  simp [execOp, resolve, invoke, ha.ev hf, Deferred.ofValue, ha.evl hx, hc.run]
/-- A function value is called. -/
theorem TL_call_fn {f : FuncId} [hc : IsCall P f] {c : Operand} {xs : List Operand} {vs fs cs : List Value} {ts : Array TypeId} {Φ : Value → List HP → Prop} (hd : Nat.blt d n = true) (hf : ev E c = some (.func (.func f) fs.toArray cs.toArray)) (hx : evl E xs = some vs) (spec : Fn P f (fs ++ vs ++ cs).toArray L Φ)
    (h : ∀ v L', Φ v L' → TL r n P ops rest ⟨D, (d, v) :: E, L'⟩ K) : TL r n P ops (⟨some d, .call { callee := .value c, args := xs.toArray, argTypes := ts }, ty, pos, af, none⟩ :: rest) ⟨D, E, L⟩ K :=
  TL_enter hd (fun _ e => by cases e) (fun a w ha => run_call_fn ha hf hx) spec h
theorem TL_call_fn0 {f : FuncId} [hc : IsCall P f] {c : Operand} {xs : List Operand} {vs fs cs : List Value} {ts : Array TypeId} {Φ : Value → List HP → Prop} (hf : ev E c = some (.func (.func f) fs.toArray cs.toArray)) (hx : evl E xs = some vs) (spec : Fn P f (fs ++ vs ++ cs).toArray L Φ)
    (h : ∀ v L', Φ v L' → TL r n P ops rest ⟨D, E, L'⟩ K) : TL r n P ops (⟨none, .call { callee := .value c, args := xs.toArray, argTypes := ts }, ty, pos, af, none⟩ :: rest) ⟨D, E, L⟩ K :=
  TL_enter0 (fun _ e => by cases e) (fun a w ha => run_call_fn ha hf hx) spec h
end
end Go.SL
