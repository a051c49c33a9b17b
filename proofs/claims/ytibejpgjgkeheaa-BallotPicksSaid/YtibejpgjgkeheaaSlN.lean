/- The rules of the logic: slices that are read, whether they are ours or nobody's. Nothing in this text is about one program. -/
import Derived.Test.YtibejpgjgkeheaaSlL
set_option linter.unusedVariables false
set_option linter.unusedSimpArgs false
set_option linter.unusedSectionVars false
namespace Go.SL
open Go Go.Lib
/-- The elements' words are of M, their cells lie in N. -/
def sliceAt2 {α : Type} (M N : Mem) (R : Rep α) (A : Option Addr) (c : Nat) (xs : List α) : Prop :=
  xs.length ≤ c ∧ xs.length ≤ maxEl ∧ (xs = [] ∨ ∃ b o, A = some ⟨b, o, none⟩ ∧ ∃ cs t fr, N b = some (.cells cs t fr) ∧ ∀ i x, xs[i]? = some x → ∃ l, R.rep M x l ∧ ∀ j v, l[j]? = some v → cs[o + i * R.sz + j]? = some v)
def SlN {α : Type} (L : List HP) (R : Rep α) (A : Option Addr) (c : Nat) (xs : List α) : Prop := ∀ M h N, M.disj h → Sep L M h → M.le N → h.le N → sliceAt2 M N R A c xs
section
variable {α : Type} {R : Rep α} {A : Option Addr} {c : Nat} {xs : List α} {L L' : List HP}
theorem SlK.n (h : SlK L R A c xs) : SlN L R A c xs := fun M k N hd hs hM hk => by
  obtain ⟨a, b, e⟩ := h M k hs
  refine ⟨a, b, e.imp id ?_⟩
  rintro ⟨b, o, rfl, cs, t, fr, hb, hall⟩
  exact ⟨b, o, rfl, cs, t, fr, hM _ _ hb, hall⟩
theorem SlN.tail {p : HP} (h : SlN L R A c xs) : SlN (p :: L) R A c xs := fun M k N hd ⟨h1, h2, hd', l1, l2, hp, hs⟩ hM hk => h M h2 N (Mem.disj_le hd (Mem.le_refl _) l2) hs hM (Mem.le_trans l2 hk)
theorem SlN.of_gives (g : Gives L L') (h : SlN L' R A c xs) : SlN L R A c xs := fun M k N hd hs hM hk => h M k N hd (g M k hs) hM hk
theorem osl_n {t : TypeId} : SlN (osl R t A c xs :: L) R A c xs := fun M k N hd ⟨h1, h2, hd', l1, l2, hp, hs⟩ hM hk => by
  refine ⟨?_, hp.1, ?_⟩
  · rcases hp.2 with ⟨rfl, rfl⟩ | ⟨g, cur, _, _, _, hl, _⟩
    · simp
    · exact hl
  · rcases hp.2 with ⟨_, e⟩ | ⟨g, cur, e, hg, hsz, hl, hc, hx⟩
    · exact .inl e
    · exact .inr ⟨g, 0, e, cur, t, (0, 0), hk _ _ (l1 _ _ hg), fun i x hi => let ⟨l, a, b⟩ := hx i x hi; ⟨l, a, fun j v hj => by rw [Nat.zero_add]; exact b j v hj⟩⟩
theorem SlN.nil : SlN L R A c ([] : List α) := fun M k N _ _ _ _ => ⟨Nat.zero_le _, Nat.zero_le _, .inl rfl⟩
theorem SlN.len (h : SlN L R A c xs) {W w : World} (hs : Sat W w L) : xs.length ≤ c ∧ xs.length ≤ maxEl := by
  obtain ⟨M, k, hd, hM, hk, hsep⟩ := hs.ex
  have := h M k (heapOf w) hd hsep hM hk
  exact ⟨this.1, this.2.1⟩
end
class FindN (L : List HP) (A : Option Addr) (c : Nat) (α : outParam Type) (R : outParam (Rep α)) (xs : outParam (List α)) : Prop where
  k : SlN L R A c xs
instance findN_tail {p : HP} {L : List HP} {A : Option Addr} {c : Nat} {α : Type} {R : Rep α} {xs : List α} [h : FindN L A c α R xs] : FindN (p :: L) A c α R xs := ⟨h.k.tail⟩
instance findN_sl {L : List HP} {A : Option Addr} {c : Nat} {α : Type} {R : Rep α} {xs : List α} : FindN (sl R A c xs :: L) A c α R xs := ⟨SlK.n (Knows.head' fun _ _ h => h)⟩
instance findN_osl {L : List HP} {A : Option Addr} {c : Nat} {α : Type} {R : Rep α} {t : TypeId} {xs : List α} : FindN (osl R t A c xs :: L) A c α R xs := ⟨osl_n⟩
theorem sln {L : List HP} {A : Option Addr} {c : Nat} {α : Type} {R : Rep α} {xs : List α} [h : FindN L A c α R xs] : SlN L R A c xs := h.k
section
variable {r : Option Nat} {n : Nat} {P : Program} {ops : Array Oper} {rest : List Oper} {K : St → Prop} {Q : Exit → St → Prop} {D : List Deferred} {E : Env} {L L' : List HP} {d : Nat} {ty : TypeId} {pos : String} {af : Array Edge}
variable {α : Type} {R : Rep α} {A : Option Addr} {c : Nat} {xs ys : List α}
theorem SlN.lens {c' : Code} (hk : SlN L R A c xs) (h : xs.length ≤ c ∧ xs.length ≤ maxEl → T r n P c' ⟨D, E, L⟩ Q) : T r n P c' ⟨D, E, L⟩ Q := fun W a w hh => h (hk.len hh.2) W a w hh
theorem SlN.lensL (hk : SlN L R A c xs) (h : xs.length ≤ c ∧ xs.length ≤ maxEl → TL r n P ops rest ⟨D, E, L⟩ K) : TL r n P ops rest ⟨D, E, L⟩ K := fun W a w hh => h (hk.len hh.2) W a w hh
theorem SlN.none_nil {c' : Code} (hk : SlN L R none c xs) (h : xs = [] → T r n P c' ⟨D, E, L⟩ Q) : T r n P c' ⟨D, E, L⟩ Q := fun W a w hh => by
  obtain ⟨M, k, hd, hM, hk', hsep⟩ := hh.2.ex
  rcases (hk M k (heapOf w) hd hsep hM hk').2.2 with e | ⟨b, o, e, _⟩
  · exact h e W a w hh
  · cases e
theorem cells_of_slice2 {M N : Mem} {w : World} (hN : N.le (heapOf w)) (h : sliceAt2 M N R A c xs) : ∃ cs, CellsOf M R xs cs ∧ (xs.length = 0 ∨ ∃ a, A = some a ∧ ∀ j v, cs[j]? = some v → w.cell? (a.add j) = some v) := by
  rcases h.2.2 with rfl | ⟨b, o, rfl, cur, t, fr, hb, hall⟩
  · exact ⟨[], rfl, .inl rfl⟩
  · obtain ⟨cs, h1, h2⟩ := cells_of_array (R := R) (M := M) (cur := cur) (o := o) (xs := xs) (k := 0) (fun i x hi => by
      obtain ⟨l, a, b⟩ := hall i x hi
      exact ⟨l, a, fun j v hj => by rw [Nat.zero_add]; exact b j v hj⟩)
    refine ⟨cs, h1, .inr ⟨_, rfl, fun j v hj => ?_⟩⟩
    rw [Addr.add_plain, cell_of (hN _ _ hb)]
    simpa using h2 j v hj
/-- append to a slice that is ours of one that is read. -/
theorem TL_append_n {x y : Operand} {t u e : TypeId} {z : Value} {bytes c2 : Nat} {A2 : Option Addr} {L0 : List HP} [ht : TyDesc P t (.slice e)] [hu : TyDesc P u (.slice e)] (hd : Nat.blt d n = true) (hx : ev E x = some (.slice A xs.length c)) (hy : ev E y = some (.slice A2 ys.length c2)) [hf : FindO L A c α R e xs L0]
    [he : TyElem P e z R.sz bytes] (hz : z.cells.size = R.sz) (hb : Nat.blt 0 bytes = true) (hsrc : SlN L0 R A2 c2 ys) (hfit : (xs.length + ys.length) * bytes ≤ 140737488355328)
    (h : ∀ A' c', TL r n P ops rest ⟨D, (d, .slice A' (xs ++ ys).length c') :: E, osl R e A' c' (xs ++ ys) :: L0⟩ K) :
    TL r n P ops (⟨some d, .call { callee := .builtin .append, args := #[x, y], argTypes := #[t, u] }, ty, pos, af, none⟩ :: rest) ⟨D, E, L⟩ K :=
  TL_val rfl hd rfl (fun _ e => by cases e) fun W a w hh => by
    have hs := hh.2.gives hf.g
    obtain ⟨M', k', hd1', hM', hk', g1, g2, gd, m1, m2, hp, hsep'⟩ := hs.ex
    obtain ⟨cs, h1, h2⟩ := cells_of_slice2 (Mem.le_refl _) (hsrc M' g2 (heapOf w) (Mem.disj_le hd1' (Mem.le_refl _) m2) hsep' hM' (Mem.le_trans m2 hk'))
    have hsl : Src P u R.sz (.slice A2 ys.length c2) ys.length cs w := src_slice (u := u) (e := e) h2 h1.length h1.one
    have hsat : Sat W w (osl R e A c xs :: pers (fun M => CellsOf M R ys cs) (fun hM h => cellsOf_mono hM h) :: L0) :=
      ⟨⟨M', k', hd1', hM', hk', g1, g2, gd, m1, m2, hp, Mem.emp, g2, Mem.emp_disj _, Mem.emp_le _, Mem.le_refl _, h1, hsep'⟩, hs.os, hs.tape, hs.output, hs.size⟩
    obtain ⟨A', c', w', hr, hs'⟩ := append_own (P := P) (t := t) (u := u) (by simpa using hb) hz hsat hsl (fun N m hm _ => by obtain ⟨_, _, _, _, _, hp, _⟩ := hm; exact hp) hfit ty
    refine ⟨_, w', _, ?_, hs'.gives (Gives.cons _ (Gives.drop _ _)), h A' c'⟩
    simp [execOp, resolve, invoke, builtin, hh.1.ev hx, hh.1.ev hy, hr]
theorem TL_append_new_n {x y : Operand} {t u e : TypeId} {z : Value} {bytes c2 : Nat} {A2 : Option Addr} [ht : TyDesc P t (.slice e)] [hu : TyDesc P u (.slice e)] (hd : Nat.blt d n = true) (hx : ev E x = some (.slice A xs.length c)) (hy : ev E y = some (.slice A2 ys.length c2))
    [he : TyElem P e z R.sz bytes] (hz : z.cells.size = R.sz) (hb : Nat.blt 0 bytes = true) (hdst : SlN L R A c xs) (hsrc : SlN L R A2 c2 ys) (hfull : c < xs.length + ys.length) (hfit : (xs.length + ys.length) * bytes ≤ 140737488355328)
    (h : ∀ A' c', TL r n P ops rest ⟨D, (d, .slice A' (xs ++ ys).length c') :: E, osl R e A' c' (xs ++ ys) :: L⟩ K) :
    TL r n P ops (⟨some d, .call { callee := .builtin .append, args := #[x, y], argTypes := #[t, u] }, ty, pos, af, none⟩ :: rest) ⟨D, E, L⟩ K :=
  TL_val rfl hd rfl (fun _ e => by cases e) fun W a w hh => by
    have hlen : (xs ++ ys).length = xs.length + ys.length := by simp
    have hb' : 0 < bytes := by simpa using hb
    have hmax : xs.length + ys.length ≤ 140737488355328 := Nat.le_trans (Nat.le_mul_of_pos_right _ hb') hfit
    obtain ⟨M, k, hd1, hM, hk, hsep⟩ := hh.2.ex
    obtain ⟨cs, h1, h2⟩ := cells_of_slice2 (Mem.le_refl _) (hsrc M k (heapOf w) hd1 hsep hM hk)
    obtain ⟨olds, h3, h4⟩ := cells_of_slice2 (Mem.le_refl _) (hdst M k (heapOf w) hd1 hsep hM hk)
    have hsl : Src P u R.sz (.slice A2 ys.length c2) ys.length cs w := src_slice (u := u) (e := e) h2 h1.length h1.one
    have hr := run_append_grow' (P := P) (t := t) (ty' := ty) hsl h3.length h4 hfull (by omega) hfit
    have hcap := grownCap_ge w (xs.length + ys.length) c e
    have hcapm : grownCap w (xs.length + ys.length) c e ≤ maxLen := grownCap_le_maxLen w _ c e (by simp only [maxLen]; omega)
    have hsat0 : Sat W w.drew (pers (fun M => CellsOf M R (xs ++ ys) (olds ++ cs)) (fun hM h => cellsOf_mono hM h) :: L) :=
      ⟨⟨M, k, hd1, hM, hk, Mem.emp, k, Mem.emp_disj _, Mem.emp_le _, Mem.le_refl _, h3.append h1, hsep⟩, hh.2.os, hh.2.tape, hh.2.output, hh.2.size⟩
    have hall := hsat0.alloc (.cells (olds.toArray ++ cs.toArray ++ Builtin.zeroCells z.cells (grownCap w (xs.length + ys.length) c e - (xs.length + ys.length))) e)
    refine ⟨.slice (some ⟨w.heap.size, 0, none⟩) (xs ++ ys).length (grownCap w (xs.length + ys.length) c e), _, osl R e (some ⟨w.heap.size, 0, none⟩) (grownCap w (xs.length + ys.length) c e) (xs ++ ys) :: L, ?_, hall.gives fun N m ⟨k1, k2, kd, m1, m2, ha, k3, k4, kd', m3, m4, hcs, hs'⟩ => ?_, h _ _⟩
    · simp [execOp, resolve, invoke, builtin, hh.1.ev hx, hh.1.ev hy, hr]
    · refine ⟨k1, k4, Mem.disj_le kd (Mem.le_refl _) m4, m1, Mem.le_trans m4 m2, ⟨by rw [hlen]; unfold maxEl; omega, .inr ⟨_, _, rfl, ha, ?_, by rw [hlen]; exact hcap, by simpa [maxLen] using hcapm, fun i x hi => ?_⟩⟩, hs'⟩
      · simp only [Array.size_append, List.size_toArray, size_zeroCells, h3.length, h1.length, hz, ← Nat.add_mul]
        congr 1
        omega
      · obtain ⟨l, a, b⟩ := hcs.at_ i x hi
        refine ⟨l, a, fun j v hj => ?_⟩
        have hb := b j v hj
        have hlt : i * R.sz + j < (olds ++ cs).length := (List.getElem?_eq_some_iff.1 hb).1
        rw [Array.getElem?_append_left (by simpa using hlt)]
        simpa using hb

/-! ### Elements, wherever they lie -/
theorem TL_index_n {x i : Operand} {t e : TypeId} {ik : IntKind} {j k : Nat} {u : α} [ht : TyDesc P t (.slice e)] [hz : TySize P e R.sz] (hd : Nat.blt d n = true) (hx : ev E x = some (.slice A k c)) (hi : ev E i = some (.int ik (j : Int))) (hkl : k = xs.length) (hk : SlN L R A c xs) (hu : xs[j]? = some u)
    (h : ∀ b o, A = some ⟨b, o, none⟩ → SlN L R (some ⟨b, o, none⟩) c xs → TL r n P ops rest ⟨D, (d, .pointer (some ⟨b, o + j * R.sz + 0, none⟩)) :: E, L⟩ K) : TL r n P ops (⟨some d, .indexAddr t x i, ty, pos, af, none⟩ :: rest) ⟨D, E, L⟩ K := fun W a w hh => by
  subst hkl
  obtain ⟨M, q, hd', hM, hq, hsep⟩ := hh.2.ex
  rcases (hk M q (heapOf w) hd' hsep hM hq).2.2 with e | ⟨b, o, e, _⟩
  · rw [e] at hu; simp at hu
  · subst e
    have hlt : j < xs.length := (List.getElem?_eq_some_iff.1 hu).1
    exact TL_y hd rfl (Y_index_at hx hi hlt (b := b) (o := o + j * R.sz) ⟨o, rfl, rfl⟩) (h b o rfl hk) W a w hh
theorem Y_index_n {x i : Operand} {t e : TypeId} {ik : IntKind} {j k b o : Nat} {u : α} [ht : TyDesc P t (.slice e)] [hz : TySize P e R.sz] (hx : ev E x = some (.slice (some ⟨b, o, none⟩) k c)) (hi : ev E i = some (.int ik (j : Int))) (hkl : k = xs.length) (hu : xs[j]? = some u) :
    Yl P E L (.indexAddr t x i) ty (.pointer (some ⟨b, o + j * R.sz + 0, none⟩)) := by
  subst hkl
  have hlt : j < xs.length := (List.getElem?_eq_some_iff.1 hu).1
  exact Y_index_at hx hi hlt (b := b) (o := o + j * R.sz) ⟨o, rfl, rfl⟩
/-- Where a slice lies that is not empty. -/
theorem T_addr_n {c' : Code} {j : Nat} {u : α} (hk : SlN L R A c xs) (hu : xs[j]? = some u) (h : ∀ b o, A = some ⟨b, o, none⟩ → T r n P c' ⟨D, E, L⟩ Q) : T r n P c' ⟨D, E, L⟩ Q := fun W a w hh => by
  obtain ⟨M, q, hd', hM, hq, hsep⟩ := hh.2.ex
  rcases (hk M q (heapOf w) hd' hsep hM hq).2.2 with e | ⟨b, o, e, _⟩
  · rw [e] at hu; simp at hu
  · exact h b o e W a w hh
theorem elem_n {b o j : Nat} {u : α} (hk : SlN L R (some ⟨b, o, none⟩) c xs) (hu : xs[j]? = some u) {W w : World} (hs : Sat W w L) : ∃ l, l.length = R.sz ∧ Sat W w (is R u l :: L) ∧ ∀ q v, l[q]? = some v → w.cell? ⟨b, o + j * R.sz + q, none⟩ = some v := by
  obtain ⟨M, k, hd', hM, hq, hsep⟩ := hs.ex
  rcases (hk M k (heapOf w) hd' hsep hM hq).2.2 with e | ⟨b', o', e, cs, t, fr, hb, hall⟩
  · rw [e] at hu; simp at hu
  · cases e
    obtain ⟨l, hl, hc⟩ := hall j u hu
    refine ⟨l, R.len hl, ⟨⟨M, k, hd', hM, hq, Mem.emp, k, Mem.emp_disj _, Mem.emp_le _, Mem.le_refl _, hl, hsep⟩, hs.os, hs.tape, hs.output, hs.size⟩, fun q v hv => ?_⟩
    rw [cell_of hb]
    exact hc q v hv
theorem cutN_some : ∀ {i k : Nat} {l : List Value}, i + k ≤ l.length → ∃ vs, cutN i k l = some vs
  | 0, 0, l, _ => ⟨[], by cases l <;> rfl⟩
  | 0, k + 1, [], h => by simp at h
  | 0, k + 1, x :: l, h => by
    obtain ⟨vs, hv⟩ := cutN_some (i := 0) (k := k) (l := l) (by simpa using h)
    exact ⟨x :: vs, by simp only [cutN, takeN] at hv ⊢; rw [hv]⟩
  | i + 1, k, [], h => by simp at h
  | i + 1, k, x :: l, h => by
    obtain ⟨vs, hv⟩ := cutN_some (i := i) (k := k) (l := l) (by simp at h; omega)
    exact ⟨vs, by simpa [cutN] using hv⟩
theorem run_load_at {t : TypeId} {b o q m : Nat} {l vs : List Value} {w : World} [ht : TyAgg P t true] [hz : TySize P t m] (hc : ∀ q v, l[q]? = some v → w.cell? ⟨b, o + q, none⟩ = some v) (hv : cutN q m l = some vs) : (loadVar t ⟨b, o + q, none⟩).run P w = .ok (.agg vs.toArray) w := by
  obtain ⟨e, hl⟩ := cutN_eq hv
  refine run_loadVar_agg (hk := by rw [e]; simp; omega) (fun i v hi => ?_)
  rw [e, List.getElem?_take] at hi
  split at hi
  · rw [List.getElem?_drop] at hi
    have := hc _ _ hi
    rwa [Nat.add_assoc]
  · cases hi
/-- The element is read whole, or a part of it of several cells. -/
theorem TL_load_na {x : Operand} {t : TypeId} {b o j q m : Nat} {u : α} [ht : TyAgg P t true] [hz : TySize P t m] (hd : Nat.blt d n = true) (hx : ev E x = some (.pointer (some ⟨b, o + j * R.sz + q, none⟩))) (hk : SlN L R (some ⟨b, o, none⟩) c xs) (hu : xs[j]? = some u) (hm : q + m ≤ R.sz)
    (h : ∀ l vs, cutN q m l = some vs → TL r n P ops rest ⟨D, (d, .agg vs.toArray) :: E, is R u l :: L⟩ K) : TL r n P ops (⟨some d, .load t x, ty, pos, af, none⟩ :: rest) ⟨D, E, L⟩ K :=
  TL_val rfl hd rfl (fun _ e => by cases e) fun W a w hh => by
    obtain ⟨l, hl, hs, hc⟩ := elem_n hk hu hh.2
    obtain ⟨vs, hv⟩ : ∃ vs, cutN q m l = some vs := cutN_some (by omega)
    exact ⟨_, w, _, by simp only [execOp, hh.1.ev hx, Instr.loadAt, Instr.sureAddr, Sem.run_bind, Sem.run_pure, Result.andThen_ok, run_load_at hc hv], hs, h l vs hv⟩
section ex
variable {β : Type} {sz : Nat} {f : α → β → List Value} {g : α → β → List HP} {ok : α → Prop} {hlen : ∀ x p, (f x p).length = sz} {hone : ∀ x p, oneN (f x p) = true}
theorem sat_ex {u : α} {l : List Value} {W w : World} (h : Sat W w (is (exR sz f g ok hlen hone) u l :: L)) : ∃ p, l = f u p ∧ ok u ∧ Sat W w (g u p ++ L) := by
  obtain ⟨M, k, hd, hM, hk, h3, h4, hd2, l3, l4, ⟨p, e, hs, hok⟩, hL⟩ := h.ex
  exact ⟨p, e, hok, ⟨M, k, hd, hM, hk, sep_app hs (Sep.mono (Mem.le_refl _) l4 hL)⟩, h.os, h.tape, h.output, h.size⟩
/-- Of elements that hold slices: a part of several cells. -/
theorem TL_load_nx {x : Operand} {t : TypeId} {b o j q m : Nat} {u : α} {vs : β → List Value} [ht : TyAgg P t true] [hz : TySize P t m] (hd : Nat.blt d n = true) (hx : ev E x = some (.pointer (some ⟨b, o + j * sz + q, none⟩))) (hk : SlN L (exR sz f g ok hlen hone) (some ⟨b, o, none⟩) c xs) (hu : xs[j]? = some u) (hv : ∀ p, cutN q m (f u p) = some (vs p))
    (h : ∀ p, ok u → TL r n P ops rest ⟨D, (d, .agg (vs p).toArray) :: E, g u p ++ L⟩ K) : TL r n P ops (⟨some d, .load t x, ty, pos, af, none⟩ :: rest) ⟨D, E, L⟩ K :=
  TL_val rfl hd rfl (fun _ e => by cases e) fun W a w hh => by
    obtain ⟨l, hl, hs, hc⟩ := elem_n hk hu hh.2
    obtain ⟨p, rfl, hok, hs2⟩ := sat_ex hs
    have hc : ∀ (q : Nat) (v : Value), (f u p)[q]? = some v → w.cell? ⟨b, o + j * sz + q, none⟩ = some v := hc
    exact ⟨_, w, _, by simp only [execOp, hh.1.ev hx, Instr.loadAt, Instr.sureAddr, Sem.run_bind, Sem.run_pure, Result.andThen_ok, run_load_at hc (hv p)], hs2, h p hok⟩
/-- One cell, which may tell of a slice. -/
theorem TL_load_nx1 {x : Operand} {t : TypeId} {b o j q : Nat} {u : α} {v : β → Value} [ht : TyAgg P t false] (hd : Nat.blt d n = true) (hx : ev E x = some (.pointer (some ⟨b, o + j * sz + q, none⟩))) (hk : SlN L (exR sz f g ok hlen hone) (some ⟨b, o, none⟩) c xs) (hu : xs[j]? = some u) (hv : ∀ p, cellN (f u p) q = some (v p))
    (h : ∀ p, ok u → TL r n P ops rest ⟨D, (d, v p) :: E, g u p ++ L⟩ K) : TL r n P ops (⟨some d, .load t x, ty, pos, af, none⟩ :: rest) ⟨D, E, L⟩ K :=
  TL_val rfl hd rfl (fun _ e => by cases e) fun W a w hh => by
    obtain ⟨l, hl, hs, hc⟩ := elem_n hk hu hh.2
    obtain ⟨p, rfl, hok, hs2⟩ := sat_ex hs
    have hc : ∀ (q : Nat) (v : Value), (f u p)[q]? = some v → w.cell? ⟨b, o + j * sz + q, none⟩ = some v := hc
    exact ⟨_, w, _, by simp only [execOp, hh.1.ev hx, Instr.loadAt, Instr.sureAddr, Sem.run_bind, Sem.run_pure, Result.andThen_ok, run_loadVar_one (hc q _ (cellN_eq (hv p)))], hs2, h p hok⟩
/-- One cell that tells of no slice: it only reckons. -/
theorem Y_load_nx {x : Operand} {t : TypeId} {b o j q : Nat} {u : α} {v : Value} [ht : TyAgg P t false] (hx : ev E x = some (.pointer (some ⟨b, o + j * sz + q, none⟩))) (hk : SlN L (exR sz f g ok hlen hone) (some ⟨b, o, none⟩) c xs) (hu : xs[j]? = some u) (hv : ∀ p, cellN (f u p) q = some v) : Yl P E L (.load t x) ty v := fun n D W a w dst pos af gd ha hs => by
  obtain ⟨l, hl, hs1, hc⟩ := elem_n hk hu hs
  obtain ⟨p, rfl, hok, hs2⟩ := sat_ex hs1
  have hc : ∀ (q : Nat) (v : Value), (f u p)[q]? = some v → w.cell? ⟨b, o + j * sz + q, none⟩ = some v := hc
  simp only [execOp, ha.ev hx, Instr.loadAt, Instr.sureAddr, Sem.run_bind, Sem.run_pure, Result.andThen_ok, run_loadVar_one (hc q _ (cellN_eq (hv p)))]
theorem Y_load_nxa {x : Operand} {t : TypeId} {b o j q m : Nat} {u : α} {vs : List Value} [ht : TyAgg P t true] [hz : TySize P t m] (hx : ev E x = some (.pointer (some ⟨b, o + j * sz + q, none⟩))) (hk : SlN L (exR sz f g ok hlen hone) (some ⟨b, o, none⟩) c xs) (hu : xs[j]? = some u) (hv : ∀ p, cutN q m (f u p) = some vs) : Yl P E L (.load t x) ty (.agg vs.toArray) := fun n D W a w dst pos af gd ha hs => by
  obtain ⟨l, hl, hs1, hc⟩ := elem_n hk hu hs
  obtain ⟨p, rfl, hok, hs2⟩ := sat_ex hs1
  have hc : ∀ (q : Nat) (v : Value), (f u p)[q]? = some v → w.cell? ⟨b, o + j * sz + q, none⟩ = some v := hc
  simp only [execOp, ha.ev hx, Instr.loadAt, Instr.sureAddr, Sem.run_bind, Sem.run_pure, Result.andThen_ok, run_load_at hc (hv p)]
end ex
/-- Of elements that their cells tell: one cell; several. -/
theorem Y_load_n {x : Operand} {t : TypeId} {b o j q : Nat} {u : α} {v : Value} {f : α → List Value} [hf : RepF R f] [ht : TyAgg P t false] (hx : ev E x = some (.pointer (some ⟨b, o + j * R.sz + q, none⟩))) (hk : SlN L R (some ⟨b, o, none⟩) c xs) (hu : xs[j]? = some u) (hv : cellN (f u) q = some v) : Yl P E L (.load t x) ty v := fun n D W a w dst pos af gd ha hs => by
  obtain ⟨l, hl, hs1, hc⟩ := elem_n hk hu hs
  obtain ⟨M, k, _, _, _, h1, h2, _, _, _, hi, _⟩ := hs1.ex
  rw [hf.e _ _ _ hi] at hc
  simp only [execOp, ha.ev hx, Instr.loadAt, Instr.sureAddr, Sem.run_bind, Sem.run_pure, Result.andThen_ok, run_loadVar_one (hc q _ (cellN_eq hv))]
theorem Y_load_naf {x : Operand} {t : TypeId} {b o j q m : Nat} {u : α} {vs : List Value} {f : α → List Value} [hf : RepF R f] [ht : TyAgg P t true] [hz : TySize P t m] (hx : ev E x = some (.pointer (some ⟨b, o + j * R.sz + q, none⟩))) (hk : SlN L R (some ⟨b, o, none⟩) c xs) (hu : xs[j]? = some u) (hv : cutN q m (f u) = some vs) : Yl P E L (.load t x) ty (.agg vs.toArray) := fun n D W a w dst pos af gd ha hs => by
  obtain ⟨l, hl, hs1, hc⟩ := elem_n hk hu hs
  obtain ⟨M, k, _, _, _, h1, h2, _, _, _, hi, _⟩ := hs1.ex
  rw [hf.e _ _ _ hi] at hc
  simp only [execOp, ha.ev hx, Instr.loadAt, Instr.sureAddr, Sem.run_bind, Sem.run_pure, Result.andThen_ok, run_load_at hc hv]
/-- What an element's word says plainly. -/
theorem T_elem_fact {p : Prop} {c' : Code} {j : Nat} {u : α} (hk : SlN L R A c xs) (hu : xs[j]? = some u) (hp : ∀ M l, R.rep M u l → p) (h : p → T r n P c' ⟨D, E, L⟩ Q) : T r n P c' ⟨D, E, L⟩ Q := fun W a w hh => by
  obtain ⟨M, q, hd', hM, hq, hsep⟩ := hh.2.ex
  rcases (hk M q (heapOf w) hd' hsep hM hq).2.2 with e | ⟨b, o, e, cs, t, fr, hb, hall⟩
  · rw [e] at hu; simp at hu
  · obtain ⟨l, hl, _⟩ := hall j u hu
    exact h (hp M l hl) W a w hh
theorem TL_elem_fact {p : Prop} {j : Nat} {u : α} (hk : SlN L R A c xs) (hu : xs[j]? = some u) (hp : ∀ M l, R.rep M u l → p) (h : p → TL r n P ops rest ⟨D, E, L⟩ K) : TL r n P ops rest ⟨D, E, L⟩ K := fun W a w hh => by
  obtain ⟨M, q, hd', hM, hq, hsep⟩ := hh.2.ex
  rcases (hk M q (heapOf w) hd' hsep hM hq).2.2 with e | ⟨b, o, e, cs, t, fr, hb, hall⟩
  · rw [e] at hu; simp at hu
  · obtain ⟨l, hl, _⟩ := hall j u hu
    exact h (hp M l hl) W a w hh
theorem SlN.take (h : SlN L R A c xs) (j : Nat) : SlN L R A c (xs.take j) := fun M k N hd hs hM hk => by
  obtain ⟨a, b, e⟩ := h M k N hd hs hM hk
  refine ⟨by rw [List.length_take]; omega, by rw [List.length_take]; omega, ?_⟩
  rcases e with e | ⟨b, o, e, cs, t, fr, hb, hall⟩
  · left; simp [e]
  · right
    refine ⟨b, o, e, cs, t, fr, hb, fun i x hi => hall i x ?_⟩
    rw [List.getElem?_take] at hi
    split at hi
    · exact hi
    · cases hi
theorem SlN.cut (h : SlN L R A c xs) (i j cap : Nat) (hij : i ≤ j) (hj : j ≤ xs.length) (hcap : j ≤ cap) : SlN L R (cutA A i cap R.sz) (cap - i) ((xs.take j).drop i) := fun M k N hd hs hM hk => by
  obtain ⟨a, b, e⟩ := h M k N hd hs hM hk
  have hlen : ((xs.take j).drop i).length = j - i := by simp; omega
  refine ⟨by rw [hlen]; omega, by rw [hlen]; omega, ?_⟩
  by_cases hij' : i = j
  · left; apply List.eq_nil_of_length_eq_zero; omega
  · rcases e with e | ⟨b, o, rfl, cs, t, fr, hb, hall⟩
    · subst e; left; simp
    · right
      refine ⟨b, o + i * R.sz, ?_, cs, t, fr, hb, fun k x hk => ?_⟩
      · unfold cutA; rw [if_neg (by omega)]; simp [Addr.add_plain]
      · rw [List.getElem?_drop, List.getElem?_take] at hk
        split at hk
        · obtain ⟨l, hl, hc⟩ := hall _ _ hk
          refine ⟨l, hl, fun q v hq => ?_⟩
          have := hc q v hq
          rwa [Nat.add_mul, ← Nat.add_assoc] at this
        · cases hk
theorem SlN.drop (h : SlN L R A c xs) {i : Nat} (hi : i ≤ xs.length) {W w : World} (hs : Sat W w L) : SlN L R (cutA A i c R.sz) (c - i) (xs.drop i) := by
  have h1 := h.len hs
  have := h.cut i xs.length c hi (Nat.le_refl _) h1.1
  rwa [List.take_length] at this
end
end Go.SL
