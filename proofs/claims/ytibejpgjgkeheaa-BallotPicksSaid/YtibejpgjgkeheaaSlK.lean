/- The rules of the logic: slices of ours, element by element; make. Nothing in this text is about one program. -/
import Derived.Test.YtibejpgjgkeheaaSlJ
import Derived.Laws.OwnMore
set_option linter.unusedVariables false
set_option linter.unusedSimpArgs false
namespace Go.SL
open Go
/-- In all states of L the cells from place o of block b on are l. -/
def AtL (L : List HP) (b o : Nat) (l : List Value) : Prop := ∀ W w, Sat W w L → ∀ j v, l[j]? = some v → w.cell? ⟨b, o + j, none⟩ = some v
/-- Whose cells are known by what they say. -/
class RepF {α : Type} (R : Rep α) (f : outParam (α → List Value)) : Prop where
  e : ∀ M x cs, R.rep M x cs → cs = f x
instance {k : IntKind} : RepF (intR k) (fun x => [.int k x]) := ⟨fun _ _ _ h => h.1⟩
instance : RepF boolR (fun x => [.bool x]) := ⟨fun _ _ _ h => h⟩
instance : RepF strR (fun x => [.string x]) := ⟨fun _ _ _ h => h.1⟩
section
variable {r : Option Nat} {n : Nat} {P : Program} {ops : Array Oper} {rest : List Oper} {K : St → Prop} {Q : Exit → St → Prop} {D : List Deferred} {E : Env} {L L' : List HP} {d : Nat} {ty : TypeId} {pos : String} {af : Array Edge}
theorem AtL.gives {b o : Nat} {l : List Value} (g : Gives L L') (h : AtL L' b o l) : AtL L b o l := fun W w hs => h W w (hs.gives g)
theorem Y_load_at {x : Operand} {t : TypeId} {b o j : Nat} {l : List Value} {v : Value} [ht : TyAgg P t false] (hx : ev E x = some (.pointer (some ⟨b, o + j, none⟩))) (ha : AtL L b o l) (hv : cellN l j = some v) : Yl P E L (.load t x) ty v := fun n D W a w dst pos af g hv' hs => by
  simp only [execOp, hv'.ev hx, Instr.loadAt, Instr.sureAddr, Sem.run_bind, Sem.run_pure, Result.andThen_ok, run_loadVar_one (ha W w hs j v (cellN_eq hv))]
theorem Y_load_at_agg {x : Operand} {t : TypeId} {b o j m : Nat} {l vs : List Value} [ht : TyAgg P t true] [hz : TySize P t m] (hx : ev E x = some (.pointer (some ⟨b, o + j, none⟩))) (ha : AtL L b o l) (hv : cutN j m l = some vs) : Yl P E L (.load t x) ty (.agg vs.toArray) := fun n D W a w dst pos af g hv' hs => by
  obtain ⟨e, hl⟩ := cutN_eq hv
  have hrun := run_loadVar_agg (P := P) (t := t) (w := w) (b := b) (o := o + j) (vs := vs) (k := m) (hk := by rw [e]; simp; omega) (fun q v hq => by
    rw [e, List.getElem?_take] at hq
    split at hq
    · rw [List.getElem?_drop] at hq
      have := ha W w hs _ _ hq
      rwa [Nat.add_assoc]
    · cases hq)
  simp only [execOp, hv'.ev hx, Instr.loadAt, Instr.sureAddr, Sem.run_bind, Sem.run_pure, Result.andThen_ok, hrun]
variable {α : Type} {R : Rep α} {A : Option Addr} {c : Nat} {xs : List α}
theorem osl_at {t : TypeId} {f : α → List Value} [hf : RepF R f] {i : Nat} {x : α} (hx : xs[i]? = some x) (L : List HP) : AtL (osl R t A c xs :: L) (match A with | some a => a.block | none => 0) (i * R.sz) (f x) := fun W w hs j v hj => by
  obtain ⟨M, k, hd, hM, hk, h1, h2, hd', l1, l2, hp, hsep⟩ := hs.ex
  rcases hp.2 with ⟨_, rfl⟩ | ⟨g, cur, rfl, hg, _, _, _, hall⟩
  · simp at hx
  · obtain ⟨l, hl, hc⟩ := hall i x hx
    rw [hf.e _ _ _ hl] at hc
    rw [cell_of (hk _ _ (l1 _ _ hg))]
    exact hc j v hj
theorem osl_addr {t : TypeId} {i : Nat} {x : α} (hx : xs[i]? = some x) {W w : World} (hs : Sat W w (osl R t A c xs :: L)) : ∃ g, A = some ⟨g, 0, none⟩ := by
  obtain ⟨M, k, hd, hM, hk, h1, h2, hd', l1, l2, hp, hsep⟩ := hs.ex
  rcases hp.2 with ⟨_, rfl⟩ | ⟨g, cur, rfl, _⟩
  · simp at hx
  · exact ⟨g, rfl⟩
theorem T_oaddr (A : Option Addr) (c : Nat) {te : TypeId} {L0 : List HP} {c' : Code} [ho : FindO L A c α R te xs L0] {i : Nat} {x : α} (hx : xs[i]? = some x) (h : ∀ g, A = some ⟨g, 0, none⟩ → T r n P c' ⟨D, E, L⟩ Q) : T r n P c' ⟨D, E, L⟩ Q := fun W a w hh => by
  obtain ⟨g, hA⟩ := osl_addr hx (hh.2.gives ho.g)
  exact h g hA W a w hh
/-- An element of a slice of ours is read. -/
theorem TL_index_get {x i : Operand} {t e : TypeId} {ik : IntKind} {j : Nat} {u : α} {f : α → List Value} [hf : RepF R f] {te : TypeId} {L0 : List HP} [ho : FindO L A c α R te xs L0] [ht : TyDesc P t (.slice e)] [hz : TySize P e R.sz] {k : Nat} (hd : Nat.blt d n = true) (hx : ev E x = some (.slice A k c)) (hi : ev E i = some (.int ik (j : Int))) (hkl : k = xs.length) (hu : xs[j]? = some u)
    (h : ∀ b, A = some ⟨b, 0, none⟩ → AtL L b (j * R.sz) (f u) → TL r n P ops rest ⟨D, (d, .pointer (some ⟨b, j * R.sz + 0, none⟩)) :: E, L⟩ K) : TL r n P ops (⟨some d, .indexAddr t x i, ty, pos, af, none⟩ :: rest) ⟨D, E, L⟩ K := fun W a w hh => by
  subst hkl
  obtain ⟨g, hA⟩ := osl_addr hu (hh.2.gives ho.g)
  have hat := AtL.gives ho.g (osl_at (t := te) (A := A) (c := c) hu L0)
  subst hA
  have hlt : j < xs.length := (List.getElem?_eq_some_iff.1 hu).1
  refine TL_y hd rfl (Y_index_at hx hi hlt (b := g) (o := j * R.sz) ⟨0, rfl, by omega⟩) (h g rfl hat) W a w hh

/-! ### One element laid open -/
def oslxAt (M h : Mem) (R : Rep α) (t : TypeId) (g c : Nat) (xs : List α) (i : Nat) (l : List Value) : Prop :=
  ∃ cur, h g = some (.cells cur t (0, 0)) ∧ cur.size = c * R.sz ∧ xs.length ≤ c ∧ c ≤ 9223372036854775807 ∧ xs.length ≤ maxEl ∧ i < xs.length ∧ l.length = R.sz ∧
    (∀ k x, k ≠ i → xs[k]? = some x → ∃ l, R.rep M x l ∧ ∀ j v, l[j]? = some v → cur[k * R.sz + j]? = some v) ∧ (∀ j v, l[j]? = some v → cur[i * R.sz + j]? = some v)
def oslx (R : Rep α) (t : TypeId) (g c : Nat) (xs : List α) (i : Nat) (l : List Value) : HP :=
  ⟨fun M h => oslxAt M h R t g c xs i l, fun hM hh ⟨cur, a1, a2, a3, a4, a5, a6, a7, a8, a9⟩ => ⟨cur, hh _ _ a1, a2, a3, a4, a5, a6, a7, fun k x hk hx => let ⟨l, hl, hc⟩ := a8 k x hk hx; ⟨l, R.mono hM hl, hc⟩, a9⟩⟩
class FindX (L : List HP) (g : Nat) (α : outParam Type) (R : outParam (Rep α)) (t : outParam TypeId) (c : outParam Nat) (xs : outParam (List α)) (i : outParam Nat) (l : outParam (List Value)) (L' : outParam (List HP)) : Prop where
  g : Gives L (oslx R t g c xs i l :: L')
instance findX_tail {p : HP} {L L' : List HP} {g : Nat} {α : Type} {R : Rep α} {t : TypeId} {c : Nat} {xs : List α} {i : Nat} {l : List Value} [h : FindX L g α R t c xs i l L'] : FindX (p :: L) g α R t c xs i l (p :: L') := ⟨(Gives.cons p h.g).trans (Gives.swap p _ _)⟩
instance findX_head {L : List HP} {g : Nat} {α : Type} {R : Rep α} {t : TypeId} {c : Nat} {xs : List α} {i : Nat} {l : List Value} : FindX (oslx R t g c xs i l :: L) g α R t c xs i l L := ⟨Gives.refl _⟩
theorem focus_osl {t : TypeId} {i : Nat} {x : α} (hx : xs[i]? = some x) {W w : World} (hs : Sat W w (osl R t A c xs :: L)) : ∃ g l, A = some ⟨g, 0, none⟩ ∧ l.length = R.sz ∧ Sat W w (oslx R t g c xs i l :: is R x l :: L) := by
  obtain ⟨M, k, hd, hM, hk, h1, h2, hd', l1, l2, hp, hsep⟩ := hs.ex
  rcases hp.2 with ⟨_, rfl⟩ | ⟨g, cur, rfl, hg, hsz, hle, hc, hall⟩
  · simp at hx
  · obtain ⟨l, hl, hcu⟩ := hall i x hx
    exact ⟨g, l, rfl, R.len hl, ⟨M, k, hd, hM, hk, h1, h2, hd', l1, l2, ⟨cur, hg, hsz, hle, hc, hp.1, (List.getElem?_eq_some_iff.1 hx).1, R.len hl, fun k x _ hx => hall k x hx, hcu⟩, Mem.emp, h2, Mem.emp_disj _, Mem.emp_le _, Mem.le_refl _, hl, hsep⟩, hs.os, hs.tape, hs.output, hs.size⟩
theorem TL_focus {te : TypeId} {L0 : List HP} [ho : FindO L A c α R te xs L0] {i : Nat} {x : α} (hx : xs[i]? = some x) (h : ∀ g l, A = some ⟨g, 0, none⟩ → l.length = R.sz → TL r n P ops rest ⟨D, E, oslx R te g c xs i l :: is R x l :: L0⟩ K) : TL r n P ops rest ⟨D, E, L⟩ K := fun W a w hh => by
  obtain ⟨g, l, hA, hl, hs⟩ := focus_osl hx (hh.2.gives ho.g)
  exact h g l hA hl W a w ⟨hh.1, hs⟩
theorem T_focus {te : TypeId} {L0 : List HP} [ho : FindO L A c α R te xs L0] {i : Nat} {x : α} {c' : Code} (hx : xs[i]? = some x) (h : ∀ g l, A = some ⟨g, 0, none⟩ → l.length = R.sz → T r n P c' ⟨D, E, oslx R te g c xs i l :: is R x l :: L0⟩ Q) : T r n P c' ⟨D, E, L⟩ Q := fun W a w hh => by
  obtain ⟨g, l, hA, hl, hs⟩ := focus_osl hx (hh.2.gives ho.g)
  exact h g l hA hl W a w ⟨hh.1, hs⟩
/-- An element's address, to be written or read cell by cell. -/
theorem TL_index_own {x i : Operand} {t e : TypeId} {ik : IntKind} {j : Nat} {u : α} {te : TypeId} {L0 : List HP} [ho : FindO L A c α R te xs L0] [ht : TyDesc P t (.slice e)] [hz : TySize P e R.sz] {k : Nat} (hd : Nat.blt d n = true) (hx : ev E x = some (.slice A k c)) (hi : ev E i = some (.int ik (j : Int))) (hkl : k = xs.length) (hu : xs[j]? = some u)
    (h : ∀ b l, A = some ⟨b, 0, none⟩ → l.length = R.sz → TL r n P ops rest ⟨D, (d, .pointer (some ⟨b, j * R.sz + 0, none⟩)) :: E, oslx R te b c xs j l :: is R u l :: L0⟩ K) : TL r n P ops (⟨some d, .indexAddr t x i, ty, pos, af, none⟩ :: rest) ⟨D, E, L⟩ K := by
  subst hkl
  have hlt : j < xs.length := (List.getElem?_eq_some_iff.1 hu).1
  refine TL_focus (A := A) (c := c) hu fun g l hA hl => ?_
  subst hA
  exact TL_y hd rfl (Y_index_at hx hi hlt (b := g) (o := j * R.sz) ⟨0, rfl, by omega⟩) (h g l rfl hl)
theorem x_cells {t : TypeId} {g i : Nat} {l : List Value} {o w : World} (h : Sat o w (oslx R t g c xs i l :: L)) : ∀ j v, l[j]? = some v → w.cell? ⟨g, i * R.sz + j, none⟩ = some v := fun j v hj => by
  obtain ⟨M, k, hd, hM, hk, h1, h2, hd', l1, l2, ⟨cur, hg, _, _, _, _, _, _, _, hc⟩, hs⟩ := h.ex
  rw [cell_of (hk _ _ (l1 _ _ hg))]
  exact hc j v hj
theorem Y_load_x {x : Operand} {t te : TypeId} {g i j : Nat} {l : List Value} {v : Value} {L0 : List HP} [ht : TyAgg P t false] [hc : FindX L g α R te c xs i l L0] (hx : ev E x = some (.pointer (some ⟨g, i * R.sz + j, none⟩))) (hv : cellN l j = some v) : Yl P E L (.load t x) ty v := fun n D W a w dst pos af gd ha hs => by
  simp only [execOp, ha.ev hx, Instr.loadAt, Instr.sureAddr, Sem.run_bind, Sem.run_pure, Result.andThen_ok, run_loadVar_one (x_cells (hs.gives hc.g) j v (cellN_eq hv))]
theorem Y_load_x_agg {x : Operand} {t te : TypeId} {g i j m : Nat} {l vs : List Value} {L0 : List HP} [ht : TyAgg P t true] [hz : TySize P t m] [hc : FindX L g α R te c xs i l L0] (hx : ev E x = some (.pointer (some ⟨g, i * R.sz + j, none⟩))) (hv : cutN j m l = some vs) : Yl P E L (.load t x) ty (.agg vs.toArray) := fun n D W a w dst pos af gd ha hs => by
  obtain ⟨e, hl⟩ := cutN_eq hv
  have hcell := x_cells (hs.gives hc.g)
  have hrun := run_loadVar_agg (P := P) (t := t) (w := w) (b := g) (o := i * R.sz + j) (vs := vs) (k := m) (hk := by rw [e]; simp; omega) (fun q v hq => by
    rw [e, List.getElem?_take] at hq
    split at hq
    · rw [List.getElem?_drop] at hq
      have := hcell _ _ hq
      rwa [Nat.add_assoc]
    · cases hq)
  simp only [execOp, ha.ev hx, Instr.loadAt, Instr.sureAddr, Sem.run_bind, Sem.run_pure, Result.andThen_ok, hrun]
theorem TL_store_x {x y : Operand} {t te : TypeId} {g i j m : Nat} {l l' vs : List Value} {v : Value} {L0 : List HP} [hz : TySize P t m] [hc : FindX L g α R te c xs i l L0] (hx : ev E x = some (.pointer (some ⟨g, i * R.sz + j, none⟩))) (hy : ev E y = some v) (hp : partsOf v = some vs)
    (hm : Nat.beq vs.length m = true) (h1 : oneN vs = true) (hl : setN j l vs = some l') (h : TL r n P ops rest ⟨D, E, oslx R te g c xs i l' :: L0⟩ K) : TL r n P ops (⟨none, .store t x y, ty, pos, af, none⟩ :: rest) ⟨D, E, L⟩ K :=
  TL_skip rfl rfl (fun _ e => by cases e) fun W a w hh => by
    have hsat := hh.2.gives hc.g
    obtain ⟨M, k, hd, hM, hk, q1, q2, hd', l1, l2, ⟨cur, hg, a2, a3, a4, a5, a6, a7, a8, a9⟩, hs⟩ := hsat.ex
    have hm' : vs.length = m := Nat.eq_of_beq_eq_true hm
    obtain ⟨e, hle⟩ := setN_eq hl
    have hll : l'.length = l.length := by rw [e]; simp; omega
    have hw : w.heap[g]? = some (.cells cur te (0, 0)) := hk _ _ (l1 _ _ hg)
    have hin : i * R.sz + j + vs.length ≤ cur.toList.length := by
      have : (i + 1) * R.sz ≤ c * R.sz := Nat.mul_le_mul_right _ (by omega)
      rw [Nat.add_mul] at this
      simp only [Array.length_toList, a2]; omega
    have hst := run_storeCells_at P g (i * R.sz + j) te vs 0 cur w hw (by simpa using hin) (oneN_mem h1)
    simp only [Nat.add_zero] at hst
    let cur' : Array Value := (cur.toList.take (i * R.sz + j) ++ vs ++ cur.toList.drop (i * R.sz + j + vs.length)).toArray
    have hsat1 : Sat W w (own g (.cells cur te (0, 0)) :: pers (fun M => (∀ k x, k ≠ i → xs[k]? = some x → ∃ l, R.rep M x l ∧ ∀ j v, l[j]? = some v → cur[k * R.sz + j]? = some v)) (fun hM h k x hk hx => let ⟨l, a, b⟩ := h k x hk hx; ⟨l, R.mono hM a, b⟩) :: L0) :=
      ⟨⟨M, k, hd, hM, hk, q1, q2, hd', l1, l2, hg, Mem.emp, q2, Mem.emp_disj _, Mem.emp_le _, Mem.le_refl _, a8, hs⟩, hsat.os, hsat.tape, hsat.output, hsat.size⟩
    have hset := Sat.set hsat1 (w' := w.setRow g cur') (y := .cells cur' te (0, 0))
      (by simp only [World.setRow, Array.getElem?_modify, if_true, hw, Option.map_some]) (fun i hi => by simp only [World.setRow, Array.getElem?_modify]; rw [if_neg (Ne.symm hi)]) rfl rfl rfl (by simp [World.setRow])
    refine ⟨.skip, w.setRow g cur', oslx R te g c xs i l' :: L0, ?_, .inl rfl, hset.gives fun N mm ⟨k1, k2, kd, m1, m2, ha, k3, k4, kd', m3, m4, hx', hs'⟩ => ?_, h⟩
    · have hrun : (storeVar t ⟨g, i * R.sz + j, none⟩ v).run P w = .ok () (w.setRow g cur') := by
        simp only [storeVar, partsOf_eq hp, Sem.run_bind, hz.run, Result.andThen_ok, List.size_toArray, hm', ne_eq, not_true_eq_false, if_false, Sem.run_pure]
        simpa [cur'] using hst
      simp only [execOp, hh.1.ev hx, hh.1.ev hy, Instr.storeAt, Instr.sureAddr, Sem.run_bind, Sem.run_pure, Result.andThen_ok, hrun]
    · have hcl : cur.toList.length = c * R.sz := by simp [a2]
      have htl : (cur.toList.take (i * R.sz + j)).length = i * R.sz + j := by rw [List.length_take]; omega
      have hjl : j + vs.length ≤ R.sz := by omega
      refine ⟨k1, k4, Mem.disj_le kd (Mem.le_refl _) m4, m1, Mem.le_trans m4 m2, ⟨cur', ha, ?_, a3, a4, a5, a6, by rw [hll]; exact a7, fun q x hq hqx => ?_, fun q v hq => ?_⟩, hs'⟩
      · simp only [cur', List.size_toArray, List.length_append, List.length_take, List.length_drop, hcl]; omega
      · obtain ⟨lq, b1, b2⟩ := hx' q x hq hqx
        refine ⟨lq, b1, fun p v hp => ?_⟩
        have hb := b2 p v hp
        have hpl : p < R.sz := by rw [← R.len b1]; exact (List.getElem?_eq_some_iff.1 hp).1
        have hqk : q < xs.length := (List.getElem?_eq_some_iff.1 hqx).1
        simp only [cur', List.getElem?_toArray]
        rcases Nat.lt_or_gt_of_ne hq with hlt | hgt
        · have : (q + 1) * R.sz ≤ i * R.sz := Nat.mul_le_mul_right _ hlt
          rw [Nat.add_mul] at this
          rw [List.append_assoc, List.getElem?_append_left (by omega), List.getElem?_take, if_pos (by omega)]
          simpa using hb
        · have : (i + 1) * R.sz ≤ q * R.sz := Nat.mul_le_mul_right _ hgt
          rw [Nat.add_mul] at this
          rw [List.getElem?_append_right (by simp only [List.length_append, htl]; omega), List.getElem?_drop]
          simp only [List.length_append, htl]
          rw [show i * R.sz + j + vs.length + (q * R.sz + p - (i * R.sz + j + vs.length)) = q * R.sz + p by omega]
          simpa using hb
      · simp only [cur', List.getElem?_toArray]
        rw [e] at hq
        by_cases h0 : q < j
        · have hq2 : l[q]? = some v := by
            rw [List.append_assoc, List.getElem?_append_left (by rw [List.length_take]; omega), List.getElem?_take, if_pos h0] at hq
            exact hq
          rw [List.append_assoc, List.getElem?_append_left (by omega), List.getElem?_take, if_pos (by omega)]
          simpa using a9 q v hq2
        · have hlt : (l.take j).length = j := by rw [List.length_take]; omega
          by_cases h1' : q < j + vs.length
          · rw [List.append_assoc, List.getElem?_append_right (by omega), hlt, List.getElem?_append_left (by omega)] at hq
            rw [List.append_assoc, List.getElem?_append_right (by omega), htl, show i * R.sz + q - (i * R.sz + j) = q - j by omega, List.getElem?_append_left (by omega)]
            exact hq
          · have hq2 : l[q]? = some v := by
              rw [List.getElem?_append_right (by simp only [List.length_append, hlt]; omega), List.getElem?_drop] at hq
              simp only [List.length_append, hlt] at hq
              rwa [show j + vs.length + (q - (j + vs.length)) = q by omega] at hq
            rw [List.getElem?_append_right (by simp only [List.length_append, htl]; omega), List.getElem?_drop]
            simp only [List.length_append, htl]
            rw [show i * R.sz + j + vs.length + (i * R.sz + q - (i * R.sz + j + vs.length)) = i * R.sz + q by omega]
            simpa using a9 q v hq2
theorem unfocus {t : TypeId} {g i : Nat} {l : List Value} (x : α) (hk : Knows L (fun M => R.rep M x l)) : Gives (oslx R t g c xs i l :: L) (osl R t (some ⟨g, 0, none⟩) c (xs.set i x) :: L) := fun M k ⟨h1, h2, hd, l1, l2, ⟨cur, a1, a2, a3, a4, a5, a6, a7, a8, a9⟩, hs⟩ => by
  have hrep := hk M h2 hs
  refine ⟨h1, h2, hd, l1, l2, ⟨by simpa using a5, .inr ⟨g, cur, rfl, a1, a2, by simpa using a3, a4, fun q y hq => ?_⟩⟩, hs⟩
  rw [List.getElem?_set] at hq
  split at hq
  · rename_i e
    subst e
    first | (rw [if_pos a6] at hq; cases hq) | cases hq
    exact ⟨l, hrep, a9⟩
  · rename_i e
    exact a8 q y (fun h => e h.symm) hq
/-- The element is shut again. -/
theorem TL_unx {te : TypeId} (g : Nat) {i : Nat} {l : List Value} (x : α) {L0 : List HP} [hf : FindX L g α R te c xs i l L0] (hk : Knows L0 (fun M => R.rep M x l)) (h : TL r n P ops rest ⟨D, E, osl R te (some ⟨g, 0, none⟩) c (xs.set i x) :: L0⟩ K) : TL r n P ops rest ⟨D, E, L⟩ K := TL_gives (hf.g.trans (unfocus x hk)) h
theorem T_unx {te : TypeId} (g : Nat) {i : Nat} {l : List Value} (x : α) {L0 : List HP} {c' : Code} [hf : FindX L g α R te c xs i l L0] (hk : Knows L0 (fun M => R.rep M x l)) (h : T r n P c' ⟨D, E, osl R te (some ⟨g, 0, none⟩) c (xs.set i x) :: L0⟩ Q) : T r n P c' ⟨D, E, L⟩ Q := T_gives (hf.g.trans (unfocus x hk)) h

/-! ### make -/
theorem cellsOf_zeros {M : Mem} {z : List Value} {x : α} (hr : R.rep M x z) : ∀ k, CellsOf M R (List.replicate k x) (zerosN k z)
  | 0 => rfl
  | k + 1 => ⟨z, zerosN k z, hr, cellsOf_zeros hr k, rfl⟩
theorem TL_make {x y : Operand} {t e : TypeId} {z : Value} {size bytes m k : Nat} {zl : List Value} (R : Rep α) (u : α) [ht : TyDesc P t (.slice e)] [he : TyElem P e z size bytes] (hd : Nat.blt d n = true) (hx : ev E x = some (.int .i64 (m : Int))) (hy : ev E y = some (.int .i64 (k : Int))) (hmk : m ≤ k) (hk : k ≤ 281474976710656) (hb : k * bytes ≤ 281474976710656) (hsz : Nat.beq R.sz size = true) (hpos : Nat.blt 0 size = true) (hz : partsOf z = some zl) (hr : ∀ M, R.rep M u zl)
    (h : ∀ b, TL r n P ops rest ⟨D, (d, .slice (some ⟨b, 0, none⟩) (List.replicate m u).length k) :: E, osl R e (some ⟨b, 0, none⟩) k (List.replicate m u) :: L⟩ K) : TL r n P ops (⟨some d, .makeSlice t x y, ty, pos, af, none⟩ :: rest) ⟨D, E, L⟩ K :=
  TL_val rfl hd rfl (fun _ e => by cases e) fun W a w hh => by
    obtain ⟨i, hi, hiz, hisz, hib⟩ := run_typeInfo (P := P) (e := e) (z := z) (size := size) (bytes := bytes)
    have hsz' : R.sz = size := Nat.eq_of_beq_eq_true hsz
    have hpos' : 0 < size := by simpa using hpos
    have hzl : zl.length = size := by rw [← hsz']; exact R.len (hr Mem.emp)
    have hbi : (bytes : Int) * (k : Int) ≤ 281474976710656 := by
      have : (bytes : Int) * (k : Int) = ((k * bytes : Nat) : Int) := by rw [Nat.mul_comm]; simp
      rw [this]; omega
    have hzero : madeCells z.cells (k * size) = (zerosN k zl).toArray := by
      unfold madeCells
      rw [partsOf_eq hz, ← hzl]
      exact zerosN_array zl k
    have hrun := run_make (P := P) w t e i z ht.under hi hiz .i64 .i64 (m : Int) (k : Int) (by omega) (by omega) (by rw [hib]; exact hbi) (by omega)
    simp only [Int.toNat_natCast, hisz, hzero] at hrun
    refine ⟨.slice (some ⟨w.heap.size, 0, none⟩) (List.replicate m u).length k, w.alloc (.cells (zerosN k zl).toArray e), osl R e (some ⟨w.heap.size, 0, none⟩) k (List.replicate m u) :: L, ?_, (hh.2.alloc _).gives fun M q ⟨h1, h2, hd, l1, l2, hp, hs⟩ => ⟨h1, h2, hd, l1, l2, ⟨by simp only [List.length_replicate, maxEl]; omega, .inr ⟨_, _, rfl, hp, by simp [zerosN_length, hzl, hsz'], by simpa using hmk, by omega, fun i v hv => ?_⟩⟩, hs⟩, h _⟩
    · simp [execOp, hh.1.ev hx, hh.1.ev hy, hrun]
    · rw [List.getElem?_replicate] at hv
      split at hv
      · rename_i hlt
        cases hv
        refine ⟨zl, hr M, fun j v hj => ?_⟩
        have hjl := (List.getElem?_eq_some_iff.1 hj).1
        have hin : i * zl.length + j < k * zl.length := by
          have : (i + 1) * zl.length ≤ k * zl.length := Nat.mul_le_mul_right _ (by omega)
          rw [Nat.add_mul] at this; omega
        rw [List.getElem?_toArray, hsz', ← hzl, zerosN_at _ _ _ hin, Nat.mul_comm i, Nat.mul_add_mod, Nat.mod_eq_of_lt hjl, getElem!_pos zl j hjl]
        rw [List.getElem?_eq_getElem hjl] at hj
        exact hj
      · cases hv
/-! ### A chain of truths, joined -/
theorem sub_ext {E E' : Env} {d : Nat} {v : Value} (hd : look E d = none) (hs : ∀ i u, look E i = some u → look E' i = some u) : ∀ i u, look E i = some u → look ((d, v) :: E') i = some u := fun i u h => by
  simp only [look]
  cases e : Nat.beq d i with
  | true =>
    have : d = i := Nat.eq_of_beq_eq_true e
    subst this
    rw [hd] at h; cases h
  | false => exact hs i u h
theorem sub_refl {E : Env} : ∀ i u, look E i = some u → look E i = some u := fun _ _ h => h
theorem TL_chain_end {E' : Env} {g : Nat} {v : Value} {p : Prop} [Decidable p] (hl : look E' g = some v) (e : v = .bool (decide p)) (hs : ∀ i u, look E i = some u → look E' i = some u) (hg : Gives L' L) :
    TL r n P ops [] ⟨D, E', L'⟩ (fun s' => ∀ W a w, Holds n W s' a w → Holds n W ⟨D, (g, .bool (decide p)) :: E, L⟩ a w) :=
  TL_nil (holds_to (sub_cons (by rw [hl, e]) hs) hg)
end
end Go.SL
