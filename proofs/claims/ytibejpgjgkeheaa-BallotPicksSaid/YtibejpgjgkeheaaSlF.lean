/- The rules of the logic: append, literals of slices and structs, bytes and strings. Nothing in this text is about one program. -/
import Derived.Test.YtibejpgjgkeheaaSlE
import Derived.Laws.BytesArg
import Derived.Lib.ConvBytes
set_option linter.unusedVariables false
set_option linter.unusedSimpArgs false
namespace Go.SL
open Go Go.Lib

theorem TyDesc.under {P : Program} {t : TypeId} {d : TypeDesc} [h : TyDesc P t d] : P.underlying t = some d := by
  have := h.run default
  unfold underlying at this
  simp only [Sem.run_bind] at this
  cases e : P.underlying t with
  | none => simp [e, program, stuck, Sem.run] at this
  | some d' =>
    simp only [program, Sem.run, Result.andThen, e] at this
    have e2 : (Result.ok d' default : Result TypeDesc) = .ok d default := this
    injection e2 with e3
    rw [e3]
theorem TyElem.sz {P : Program} {e : TypeId} {z : Value} {size bytes : Nat} [h : TyElem P e z size bytes] (w : World) : (sizeOf e).run P w = .ok size w := by
  obtain ⟨i, hi, hz, hsz, hby⟩ := run_typeInfo (P := P) (e := e) (z := z) (size := size) (bytes := bytes)
  simp [sizeOf, typeInfo, hi, hsz]

section
variable {r : Option Nat} {n : Nat} {P : Program} {ops : Array Oper} {rest : List Oper} {K : St → Prop} {Q : Exit → St → Prop} {D : List Deferred} {E : Env} {L L' : List HP} {d : Nat} {ty : TypeId} {pos : String} {af : Array Edge}
variable {α : Type} {R : Rep α} {A : Option Addr} {c : Nat} {xs ys : List α}

/-! ### The cells of elements -/
/-- Of elements that lie somewhere: their cells, one behind the other. -/
def CellsOf (M : Mem) (R : Rep α) : List α → List Value → Prop
  | [], cs => cs = []
  | x :: xs, cs => ∃ l r', R.rep M x l ∧ CellsOf M R xs r' ∧ cs = l ++ r'
theorem cellsOf_mono {M N : Mem} (hM : M.le N) : ∀ {xs : List α} {cs : List Value}, CellsOf M R xs cs → CellsOf N R xs cs
  | [], cs, h => h
  | x :: xs, cs, ⟨l, r', h1, h2, e⟩ => ⟨l, r', R.mono hM h1, cellsOf_mono hM h2, e⟩
theorem CellsOf.length {M : Mem} : ∀ {xs : List α} {cs : List Value}, CellsOf M R xs cs → cs.length = xs.length * R.sz
  | [], cs, h => by simp [show cs = [] from h]
  | x :: xs, cs, ⟨l, r', h1, h2, e⟩ => by
    subst e
    simp [R.len h1, CellsOf.length h2, Nat.add_mul]
    omega
theorem CellsOf.one {M : Mem} : ∀ {xs : List α} {cs : List Value}, CellsOf M R xs cs → ∀ v ∈ cs, v.oneCell' = true
  | [], cs, h => by simp [show cs = [] from h]
  | x :: xs, cs, ⟨l, r', h1, h2, e⟩ => by
    subst e
    intro v hv
    rcases List.mem_append.1 hv with hv | hv
    · exact R.one h1 v hv
    · exact CellsOf.one h2 v hv
theorem CellsOf.at_ {M : Mem} : ∀ {xs : List α} {cs : List Value}, CellsOf M R xs cs → ∀ i x, xs[i]? = some x → ∃ l, R.rep M x l ∧ ∀ j v, l[j]? = some v → cs[i * R.sz + j]? = some v
  | [], cs, h, i, x, hi => by simp at hi
  | y :: xs, cs, ⟨l, r', h1, h2, e⟩, 0, x, hi => by
    simp at hi
    subst hi; subst e
    refine ⟨l, h1, fun j v hj => ?_⟩
    have : j < l.length := (List.getElem?_eq_some_iff.1 hj).1
    simp [List.getElem?_append_left this, hj]
  | y :: xs, cs, ⟨l, r', h1, h2, e⟩, i + 1, x, hi => by
    obtain ⟨l', h3, h4⟩ := CellsOf.at_ h2 i x (by simpa using hi)
    subst e
    refine ⟨l', h3, fun j v hj => ?_⟩
    rw [List.getElem?_append_right (by rw [R.len h1, Nat.add_mul]; omega), R.len h1, show (i + 1) * R.sz + j - R.sz = i * R.sz + j by rw [Nat.add_mul]; omega]
    exact h4 j v hj
theorem CellsOf.append {M : Mem} : ∀ {xs ys : List α} {cs ds : List Value}, CellsOf M R xs cs → CellsOf M R ys ds → CellsOf M R (xs ++ ys) (cs ++ ds)
  | [], ys, cs, ds, h, k => by rw [show cs = [] from h]; exact k
  | x :: xs, ys, cs, ds, ⟨l, r', h1, h2, e⟩, k => ⟨l, r' ++ ds, h1, CellsOf.append h2 k, by rw [e, List.append_assoc]⟩
/-- What lies in an array, element by element, is some list of cells. -/
theorem cells_of_array {M : Mem} {cur : Array Value} {o : Nat} : ∀ {xs : List α} {k : Nat}, (∀ i x, xs[i]? = some x → ∃ l, R.rep M x l ∧ ∀ j v, l[j]? = some v → cur[o + (k + i) * R.sz + j]? = some v) → ∃ cs, CellsOf M R xs cs ∧ ∀ j v, cs[j]? = some v → cur[o + k * R.sz + j]? = some v
  | [], k, h => ⟨[], rfl, fun j v hj => by simp at hj⟩
  | x :: xs, k, h => by
    obtain ⟨l, h1, h2⟩ := h 0 x rfl
    obtain ⟨cs, h3, h4⟩ := cells_of_array (xs := xs) (k := k + 1) (fun i y hi => by
      obtain ⟨l', a, b⟩ := h (i + 1) y (by simpa using hi)
      refine ⟨l', a, fun j v hj => ?_⟩
      have := b j v hj
      rwa [show k + (i + 1) = k + 1 + i by omega] at this)
    refine ⟨l ++ cs, ⟨l, cs, h1, h3, rfl⟩, fun j v hj => ?_⟩
    by_cases hl : j < l.length
    · rw [List.getElem?_append_left hl] at hj
      exact h2 j v hj
    · rw [List.getElem?_append_right (by omega)] at hj
      have := h4 _ v hj
      rw [R.len h1] at this
      rw [R.len h1] at hl
      rwa [show o + (k + 1) * R.sz + (j - R.sz) = o + k * R.sz + j by rw [Nat.add_mul]; omega] at this
theorem cells_of_slice {M : Mem} {w : World} (hM : M.le (heapOf w)) (h : sliceAt M R A c xs) : ∃ cs, CellsOf M R xs cs ∧ (xs.length = 0 ∨ ∃ a, A = some a ∧ ∀ j v, cs[j]? = some v → w.cell? (a.add j) = some v) := by
  rcases h.2.2 with rfl | ⟨b, o, rfl, cur, t, fr, hb, hall⟩
  · exact ⟨[], rfl, .inl rfl⟩
  · obtain ⟨cs, h1, h2⟩ := cells_of_array (R := R) (M := M) (cur := cur) (o := o) (xs := xs) (k := 0) (fun i x hi => by
      obtain ⟨l, a, b⟩ := hall i x hi
      exact ⟨l, a, fun j v hj => by rw [Nat.zero_add]; exact b j v hj⟩)
    refine ⟨cs, h1, .inr ⟨_, rfl, fun j v hj => ?_⟩⟩
    rw [Addr.add_plain, cell_of (hM _ _ hb)]
    simpa using h2 j v hj

/-! ### append -/
def strBytes (s : ByteArray) : List Int := s.data.toList.map fun b => (b.toNat : Int)
theorem strBytes_length (s : ByteArray) : (strBytes s).length = s.size := by simp [strBytes]
theorem cells_of_string (M : Mem) (s : ByteArray) : CellsOf M (intR .u8) (strBytes s) (strCells s) := by
  unfold strBytes strCells
  induction s.data.toList with
  | nil => rfl
  | cons b r ih =>
    refine ⟨[.int .u8 b.toNat], _, ⟨rfl, u8In_mk ?_⟩, ih, rfl⟩
    have := b.toNat_lt
    show 0 ≤ (b.toNat : Int) ∧ (b.toNat : Int) ≤ 255
    omega
/-- Whatever is appended to a slice that is ours: what comes of it. -/
theorem append_own {t u e : TypeId} {z : Value} {bytes c : Nat} {W w : World} {v : Value} {news : List Value} [ht : TyDesc P t (.slice e)] [he : TyElem P e z R.sz bytes] (hb : 0 < bytes) (hzl : z.cells.size = R.sz) (hs : Sat W w (osl R e A c xs :: L)) (hsrc : Src P u R.sz v ys.length news w)
    (hcells : ∀ M h, Sep L M h → M.le (heapOf w) → CellsOf M R ys news) (hfit : (xs.length + ys.length) * bytes ≤ 140737488355328) (ty' : TypeId) :
    ∃ A' c' w', (Builtin.append_ #[t, u] ty' #[.slice A xs.length c, v]).run P w = .ok (.slice A' (xs ++ ys).length c') w' ∧ Sat W w' (osl R e A' c' (xs ++ ys) :: L) := by
  have hlen : (xs ++ ys).length = xs.length + ys.length := by simp
  have hmax : xs.length + ys.length ≤ 140737488355328 := Nat.le_trans (Nat.le_mul_of_pos_right _ hb) hfit
  have hmaxEl : (xs ++ ys).length ≤ maxEl := by rw [hlen]; unfold maxEl; omega
  obtain ⟨M, k, hd, hM, hk, h1, h2, hd', l1, l2, hp, hsep⟩ := hs.ex
  have hnc := hcells M h2 hsep hM
  -- growing: all cells lie in a new block
  have grow : ∀ (olds : List Value), CellsOf M R xs olds → (xs.length = 0 ∨ ∃ a, A = some a ∧ ∀ j v, olds[j]? = some v → w.cell? (a.add j) = some v) → c < xs.length + ys.length →
      ∃ A' c' w', (Builtin.append_ #[t, u] ty' #[.slice A xs.length c, v]).run P w = .ok (.slice A' (xs ++ ys).length c') w' ∧ Sat W w' (osl R e A' c' (xs ++ ys) :: L) := by
    intro olds ho hold hg
    have hr := run_append_grow' (P := P) (t := t) (ty' := ty') hsrc ho.length hold hg (by omega) hfit
    refine ⟨_, _, _, by rw [hlen]; exact hr, ?_⟩
    have hcap := grownCap_ge w (xs.length + ys.length) c e
    have hcapm : grownCap w (xs.length + ys.length) c e ≤ maxLen := grownCap_le_maxLen w _ c e (by simp only [maxLen]; omega)
    have hsat : Sat W w.drew L := (hs.gives (Gives.drop _ _)).drew
    have hsat0 : Sat W w.drew (pers (fun M => CellsOf M R (xs ++ ys) (olds ++ news)) (fun hM h => cellsOf_mono hM h) :: L) := by
      refine ⟨⟨M, h2, Mem.disj_le hd (Mem.le_refl _) l2, hM, Mem.le_trans l2 hk, Mem.emp, h2, Mem.emp_disj _, Mem.emp_le _, Mem.le_refl _, ho.append hnc, hsep⟩, hsat.os, hsat.tape, hsat.output, hsat.size⟩
    have hall := hsat0.alloc (.cells (olds.toArray ++ news.toArray ++ Builtin.zeroCells z.cells (grownCap w (xs.length + ys.length) c e - (xs.length + ys.length))) e)
    refine hall.gives fun N m ⟨k1, k2, kd, m1, m2, ha, k3, k4, kd', m3, m4, hcs, hs'⟩ => ?_
    refine ⟨k1, k4, Mem.disj_le kd (Mem.le_refl _) m4, m1, Mem.le_trans m4 m2, ⟨hmaxEl, .inr ⟨_, _, rfl, ha, ?_, by rw [hlen]; exact hcap, by simpa [maxLen] using hcapm, fun i x hi => ?_⟩⟩, hs'⟩
    · have hl1 := ho.length
      have hl2 := hnc.length
      simp only [Array.size_append, List.size_toArray, size_zeroCells, hl1, hl2, hzl, ← Nat.add_mul]
      congr 1
      omega
    · obtain ⟨l, a, b⟩ := hcs.at_ i x hi
      refine ⟨l, a, fun j v hj => ?_⟩
      have hb := b j v hj
      have hlt : i * R.sz + j < (olds ++ news).length := (List.getElem?_eq_some_iff.1 hb).1
      rw [Array.getElem?_append_left (by simpa using hlt)]
      simpa using hb
  rcases hp.2 with ⟨rfl, rfl⟩ | ⟨g, cur, rfl, hg, hsz, hl, hc, hx⟩
  · by_cases hm : ys.length = 0
    · have : ys = [] := List.eq_nil_of_length_eq_zero hm
      subst this
      have hn : news = [] := List.eq_nil_of_length_eq_zero (by simpa using hsrc.count)
      subst hn
      exact ⟨A, 0, w, run_append_none' hsrc (Nat.le_refl _), hs⟩
    · exact grow [] rfl (.inl rfl) (by simp; omega)
  · have hw : w.heap[g]? = some (.cells cur e (0, 0)) := hk _ _ (l1 _ _ hg)
    by_cases hroom : xs.length + ys.length ≤ c
    · have hfit2 : (xs.length + ys.length) * R.sz ≤ cur.toList.length := by simp [hsz]; exact Nat.mul_le_mul_right _ hroom
      have hr := run_append_room' (P := P) (t := t) (ty' := ty') (cur := cur.toList) hsrc (by simpa using hw) hroom hfit2
      refine ⟨_, _, _, by rw [hlen]; exact hr, ?_⟩
      have hsat1 : Sat W w (own g (.cells cur e (0, 0)) :: pers (fun M => (∀ i x, xs[i]? = some x → ∃ l, R.rep M x l ∧ ∀ j v, l[j]? = some v → cur[i * R.sz + j]? = some v) ∧ CellsOf M R ys news) (fun hM h => ⟨fun i x hi => let ⟨l, a, b⟩ := h.1 i x hi; ⟨l, R.mono hM a, b⟩, cellsOf_mono hM h.2⟩) :: L) :=
        ⟨⟨M, k, hd, hM, hk, h1, h2, hd', l1, l2, hg, Mem.emp, h2, Mem.emp_disj _, Mem.emp_le _, Mem.le_refl _, ⟨hx, hnc⟩, hsep⟩, hs.os, hs.tape, hs.output, hs.size⟩
      have hset := Sat.set hsat1 (w' := w.setRow g (cur.toList.take (xs.length * R.sz) ++ news ++ cur.toList.drop ((xs.length + ys.length) * R.sz)).toArray) (y := .cells (cur.toList.take (xs.length * R.sz) ++ news ++ cur.toList.drop ((xs.length + ys.length) * R.sz)).toArray e (0, 0))
        (by simp only [World.setRow, Array.getElem?_modify, if_true, hw, Option.map_some]) (fun i hi => by simp only [World.setRow, Array.getElem?_modify]; rw [if_neg (Ne.symm hi)]) rfl rfl rfl (by simp [World.setRow])
      refine hset.gives fun N m ⟨k1, k2, kd, m1, m2, ha, k3, k4, kd', m3, m4, ⟨hx', hn'⟩, hs'⟩ => ?_
      have hnl := hn'.length
      have hcl : cur.toList.length = c * R.sz := by simp [hsz]
      refine ⟨k1, k4, Mem.disj_le kd (Mem.le_refl _) m4, m1, Mem.le_trans m4 m2, ⟨hmaxEl, .inr ⟨g, _, rfl, ha, ?_, by rw [hlen]; exact hroom, hc, fun i x hi => ?_⟩⟩, hs'⟩
      · simp only [List.size_toArray, List.length_append, List.length_take, List.length_drop, hnl, hcl]
        have e1 : (xs.length + ys.length) * R.sz = xs.length * R.sz + ys.length * R.sz := Nat.add_mul _ _ _
        omega
      · have e1 : (xs.length + ys.length) * R.sz = xs.length * R.sz + ys.length * R.sz := Nat.add_mul _ _ _
        have hle : xs.length * R.sz ≤ cur.toList.length := by omega
        have htl : (cur.toList.take (xs.length * R.sz)).length = xs.length * R.sz := by rw [List.length_take]; omega
        by_cases hi2 : i < xs.length
        · rw [List.getElem?_append_left hi2] at hi
          obtain ⟨l, a, b⟩ := hx' i x hi
          refine ⟨l, a, fun j v hj => ?_⟩
          have hjl : j < R.sz := by rw [← R.len a]; exact (List.getElem?_eq_some_iff.1 hj).1
          have hin : i * R.sz + j < xs.length * R.sz := by
            have : (i + 1) * R.sz ≤ xs.length * R.sz := Nat.mul_le_mul_right _ hi2
            rw [Nat.add_mul] at this
            omega
          have hb := b j v hj
          simp only [List.getElem?_toArray]
          rw [List.append_assoc, List.getElem?_append_left (by omega), List.getElem?_take, if_pos hin]
          simpa using hb
        · rw [List.getElem?_append_right (by omega)] at hi
          obtain ⟨l, a, b⟩ := hn'.at_ _ x hi
          refine ⟨l, a, fun j v hj => ?_⟩
          have hb := b j v hj
          have hlt : (i - xs.length) * R.sz + j < news.length := (List.getElem?_eq_some_iff.1 hb).1
          have hge : xs.length * R.sz ≤ i * R.sz := Nat.mul_le_mul_right _ (by omega)
          have hsub : (i - xs.length) * R.sz = i * R.sz - xs.length * R.sz := Nat.sub_mul _ _ _
          simp only [List.getElem?_toArray]
          rw [List.append_assoc, List.getElem?_append_right (by omega), htl, show i * R.sz + j - xs.length * R.sz = (i - xs.length) * R.sz + j by omega, List.getElem?_append_left hlt]
          exact hb
    · obtain ⟨olds, h3, h4⟩ := cells_of_array (R := R) (M := M) (cur := cur) (o := 0) (xs := xs) (k := 0) (fun i x hi => by
        obtain ⟨l, a, b⟩ := hx i x hi
        exact ⟨l, a, fun j v hj => by rw [Nat.zero_add, Nat.zero_add]; exact b j v hj⟩)
      refine grow olds h3 (.inr ⟨_, rfl, fun j v hj => ?_⟩) (by omega)
      rw [Addr.add_plain, cell_of hw]
      simpa using h4 j v hj

/-- append of a slice's elements to a slice that is ours. -/
theorem TL_append {x y : Operand} {t u e : TypeId} {z : Value} {bytes c2 : Nat} {A2 : Option Addr} {L0 : List HP} [ht : TyDesc P t (.slice e)] [hu : TyDesc P u (.slice e)] (hd : Nat.blt d n = true) (hx : ev E x = some (.slice A xs.length c)) (hy : ev E y = some (.slice A2 ys.length c2)) [hf : FindO L A c α R e xs L0]
    [he : TyElem P e z R.sz bytes] (hz : z.cells.size = R.sz) (hb : Nat.blt 0 bytes = true) (hsrc : SlK L0 R A2 c2 ys) (hfit : (xs.length + ys.length) * bytes ≤ 140737488355328)
    (h : ∀ A' c', TL r n P ops rest ⟨D, (d, .slice A' (xs ++ ys).length c') :: E, osl R e A' c' (xs ++ ys) :: L0⟩ K) :
    TL r n P ops (⟨some d, .call { callee := .builtin .append, args := #[x, y], argTypes := #[t, u] }, ty, pos, af, none⟩ :: rest) ⟨D, E, L⟩ K :=
  TL_val rfl hd rfl (fun _ e => by cases e) fun W a w hh => by
    have hs := hh.2.gives hf.g
    have hs0 := hs.gives (Gives.drop _ _)
    obtain ⟨M, k, hd1, hM, hk, hsep⟩ := hs0.ex
    obtain ⟨cs, h1, h2⟩ := cells_of_slice hM (hsrc M k hsep)
    have hsl : Src P u R.sz (.slice A2 ys.length c2) ys.length cs w := src_slice (u := u) (e := e) h2 h1.length h1.one
    have hsat : Sat W w (osl R e A c xs :: pers (fun M => CellsOf M R ys cs) (fun hM h => cellsOf_mono hM h) :: L0) := by
      obtain ⟨M', k', hd1', hM', hk', g1, g2, gd, m1, m2, hp, hsep'⟩ := hs.ex
      -- the cells are the same by their elements' own word
      obtain ⟨cs', q1, q2⟩ := cells_of_slice hM' (hsrc M' g2 hsep')
      have : cs' = cs := by
        apply List.ext_getElem?
        intro j
        by_cases hj : j < ys.length * R.sz
        · rcases q2 with e0 | ⟨a1, e1, q3⟩
          · rw [e0] at hj; simp at hj
          · rcases h2 with e0 | ⟨a2, e2, h3⟩
            · rw [e0] at hj; simp at hj
            · rw [e1] at e2; cases e2
              have l1 : j < cs'.length := by rw [q1.length]; exact hj
              have l2 : j < cs.length := by rw [h1.length]; exact hj
              have v1 := q3 j _ (List.getElem?_eq_getElem l1)
              have v2 := h3 j _ (List.getElem?_eq_getElem l2)
              rw [v1] at v2
              rw [List.getElem?_eq_getElem l1, List.getElem?_eq_getElem l2]
              exact v2
        · rw [List.getElem?_eq_none (by rw [q1.length]; omega), List.getElem?_eq_none (by rw [h1.length]; omega)]
      subst this
      exact ⟨⟨M', k', hd1', hM', hk', g1, g2, gd, m1, m2, hp, Mem.emp, g2, Mem.emp_disj _, Mem.emp_le _, Mem.le_refl _, q1, hsep'⟩, hs.os, hs.tape, hs.output, hs.size⟩
    obtain ⟨A', c', w', hr, hs'⟩ := append_own (P := P) (t := t) (u := u) (by simpa using hb) hz hsat hsl (fun N m hm _ => by obtain ⟨_, _, _, _, _, hp, _⟩ := hm; exact hp) hfit ty
    refine ⟨_, w', _, ?_, hs'.gives (Gives.cons _ (Gives.drop _ _)), h A' c'⟩
    simp [execOp, resolve, invoke, builtin, hh.1.ev hx, hh.1.ev hy, hr]
/-- append of a string's bytes. -/
theorem TL_append_str {x y : Operand} {t u e : TypeId} {z : Value} {s : ByteArray} {xs : List Int} {L0 : List HP} [ht : TyDesc P t (.slice e)] [hu : TyDesc P u .string] (hd : Nat.blt d n = true) (hx : ev E x = some (.slice A xs.length c)) (hy : ev E y = some (.string s)) [hf : FindO L A c Int (intR .u8) e xs L0]
    [he : TyElem P e z 1 1] (hz : z.cells.size = 1) (hfit : xs.length + s.size ≤ 140737488355328)
    (h : ∀ A' c', TL r n P ops rest ⟨D, (d, .slice A' (xs ++ strBytes s).length c') :: E, osl (intR .u8) e A' c' (xs ++ strBytes s) :: L0⟩ K) :
    TL r n P ops (⟨some d, .call { callee := .builtin .append, args := #[x, y], argTypes := #[t, u] }, ty, pos, af, none⟩ :: rest) ⟨D, E, L⟩ K :=
  TL_val rfl hd rfl (fun _ e => by cases e) fun W a w hh => by
    have hs := hh.2.gives hf.g
    have hsrc : Src P u (intR .u8).sz (.string s) (strBytes s).length (strCells s) w := by rw [strBytes_length]; exact src_string
    obtain ⟨A', c', w', hr, hs'⟩ := append_own (P := P) (t := t) (u := u) (he := he) (ys := strBytes s) (by decide) hz hs hsrc (fun N m _ _ => cells_of_string N s) (by rw [strBytes_length]; omega) ty
    refine ⟨_, w', _, ?_, hs', h A' c'⟩
    simp [execOp, resolve, invoke, builtin, hh.1.ev hx, hh.1.ev hy, hr]
/-- append to a slice that has no room: the old one stays as it was. -/
theorem TL_append_new {x y : Operand} {t u e : TypeId} {z : Value} {bytes c2 : Nat} {A2 : Option Addr} [ht : TyDesc P t (.slice e)] [hu : TyDesc P u (.slice e)] (hd : Nat.blt d n = true) (hx : ev E x = some (.slice A xs.length c)) (hy : ev E y = some (.slice A2 ys.length c2))
    [he : TyElem P e z R.sz bytes] (hz : z.cells.size = R.sz) (hb : Nat.blt 0 bytes = true) (hdst : SlK L R A c xs) (hsrc : SlK L R A2 c2 ys) (hfull : c < xs.length + ys.length) (hfit : (xs.length + ys.length) * bytes ≤ 140737488355328)
    (h : ∀ A' c', TL r n P ops rest ⟨D, (d, .slice A' (xs ++ ys).length c') :: E, osl R e A' c' (xs ++ ys) :: L⟩ K) :
    TL r n P ops (⟨some d, .call { callee := .builtin .append, args := #[x, y], argTypes := #[t, u] }, ty, pos, af, none⟩ :: rest) ⟨D, E, L⟩ K :=
  TL_val rfl hd rfl (fun _ e => by cases e) fun W a w hh => by
    have hlen : (xs ++ ys).length = xs.length + ys.length := by simp
    have hb' : 0 < bytes := by simpa using hb
    have hmax : xs.length + ys.length ≤ 140737488355328 := Nat.le_trans (Nat.le_mul_of_pos_right _ hb') hfit
    obtain ⟨M, k, hd1, hM, hk, hsep⟩ := hh.2.ex
    obtain ⟨cs, h1, h2⟩ := cells_of_slice hM (hsrc M k hsep)
    obtain ⟨olds, h3, h4⟩ := cells_of_slice hM (hdst M k hsep)
    have hsl : Src P u R.sz (.slice A2 ys.length c2) ys.length cs w := src_slice (u := u) (e := e) h2 h1.length h1.one
    have hr := run_append_grow' (P := P) (t := t) (ty' := ty) hsl h3.length h4 hfull (by omega) hfit
    have hcap := grownCap_ge w (xs.length + ys.length) c e
    have hcapm : grownCap w (xs.length + ys.length) c e ≤ maxLen := grownCap_le_maxLen w _ c e (by simp only [maxLen]; omega)
    have hsat0 : Sat W w.drew (pers (fun M => CellsOf M R (xs ++ ys) (olds ++ cs)) (fun hM h => cellsOf_mono hM h) :: L) :=
      ⟨⟨M, k, hd1, hM, hk, Mem.emp, k, Mem.emp_disj _, Mem.emp_le _, Mem.le_refl _, h3.append h1, hsep⟩, hh.2.os, hh.2.tape, hh.2.output, hh.2.size⟩
    have hall := hsat0.alloc (.cells (olds.toArray ++ cs.toArray ++ Builtin.zeroCells z.cells (grownCap w (xs.length + ys.length) c e - (xs.length + ys.length))) e)
    refine ⟨.slice (some ⟨w.heap.size, 0, none⟩) (xs ++ ys).length (grownCap w (xs.length + ys.length) c e), _, osl R e (some ⟨w.heap.size, 0, none⟩) (grownCap w (xs.length + ys.length) c e) (xs ++ ys) :: L, ?_, hall.gives fun N m ⟨k1, k2, kd, m1, m2, ha, k3, k4, kd', m3, m4, hcs, hs'⟩ => ?_, h _ _⟩
    · simp [execOp, resolve, invoke, builtin, hh.1.ev hx, hh.1.ev hy, hr]
    · refine ⟨k1, k4, Mem.disj_le kd (Mem.le_refl _) m4, m1, Mem.le_trans m4 m2, ⟨by rw [hlen]; unfold maxEl; omega, .inr ⟨_, _, rfl, ha, ?_, by rw [hlen]; exact hcap, by simpa [maxLen] using hcapm, fun i x hi => ?_⟩⟩, hs'⟩
      · simp only [Array.size_append, List.size_toArray, size_zeroCells, h3.length, h1.length, hz, ← Nat.add_mul]
        congr 1
        omega
      · obtain ⟨l, a, b⟩ := hcs.at_ i x hi
        refine ⟨l, a, fun j v hj => ?_⟩
        have hb := b j v hj
        have hlt : i * R.sz + j < (olds ++ cs).length := (List.getElem?_eq_some_iff.1 hb).1
        rw [Array.getElem?_append_left (by simpa using hlt)]
        simpa using hb
theorem TL_onil {A : Option Addr} (R : Rep α) (e : TypeId) (h : TL r n P ops rest ⟨D, E, osl R e A 0 [] :: L⟩ K) : TL r n P ops rest ⟨D, E, L⟩ K := TL_gives (osl_nil R e A L) h
theorem T_onil {A : Option Addr} {c' : Code} (R : Rep α) (e : TypeId) (h : T r n P c' ⟨D, E, osl R e A 0 [] :: L⟩ Q) : T r n P c' ⟨D, E, L⟩ Q := T_gives (osl_nil R e A L) h

/-! ### Literals -/
def fillL (pl : Nat → Option (Nat × Nat)) : List Value → List (Nat × List Value) → Option (List Value)
  | cs, [] => some cs
  | cs, (i, vs) :: rest => match pl i with
    | some (off, sz) => match Nat.beq vs.length sz with
      | true => match setN off cs vs with
        | some cs' => fillL pl cs' rest
        | none => none
      | false => none
    | none => none
def evp (E : Env) : List (Nat × Operand) → Option (List (Nat × List Value))
  | [] => some []
  | (i, x) :: r => match ev E x with
    | some v => match partsOf v with
      | some vs => match evp E r with
        | some r' => some ((i, vs) :: r')
        | none => none
      | none => none
    | none => none
theorem fold_set (off : Nat) : ∀ (vs : List Value) (k : Nat) (cs : List Value), off + k + vs.length ≤ cs.length →
    (vs.zipIdx k).foldl (fun (a : Array Value) (p : Value × Nat) => a.setIfInBounds (off + p.2) p.1) cs.toArray = (cs.take (off + k) ++ vs ++ cs.drop (off + k + vs.length)).toArray
  | [], k, cs, h => by simp
  | v :: vs, k, cs, h => by
    simp only [List.zipIdx_cons, List.foldl_cons, List.setIfInBounds_toArray]
    have ih := fold_set off vs (k + 1) (cs.set (off + k) v) (by simp at h ⊢; omega)
    rw [ih]
    congr 1
    have := list_seg_step cs (off + k) v vs (by simp at h; omega)
    rw [show off + (k + 1) = off + k + 1 by omega]
    rw [this]
    simp
theorem fill_eq {pl : Nat → Option (Nat × Nat)} : ∀ {ps : List (Nat × List Value)} {vs : List (Nat × Value)} {cs cs' : List Value}, ps.length = vs.length → (∀ (k : Nat) (p : Nat × List Value) (v : Nat × Value), ps[k]? = some p → vs[k]? = some v → p.1 = v.1 ∧ v.2.cells = p.2.toArray) → fillL pl cs ps = some cs' → Instr.fill pl cs.toArray vs = some cs'.toArray
  | [], [], cs, cs', _, _, h => by simp [fillL] at h; simp [Instr.fill, h]
  | [], _ :: _, _, _, hl, _, _ => by simp at hl
  | _ :: _, [], _, _, hl, _, _ => by simp at hl
  | (i, us) :: ps, (j, v) :: vs, cs, cs', hl, hp, h => by
    obtain ⟨e1, e2⟩ := hp 0 _ _ rfl rfl
    simp only at e1 e2
    subst e1
    simp only [fillL] at h
    split at h
    · rename_i off sz hpl
      split at h
      · rename_i hbeq
        split at h
        · rename_i cs1 hset
          obtain ⟨e3, hle⟩ := setN_eq hset
          have hsz : us.length = sz := Nat.eq_of_beq_eq_true hbeq
          have hfold := fold_set off us 0 cs (by simpa using hle)
          simp only [Nat.add_zero] at hfold
          rw [← e3] at hfold
          simp only [Instr.fill, hpl, e2, List.size_toArray, hsz]
          rw [if_neg (by simp; omega)]
          have : (us.toArray.zipIdx.foldl (fun cs (p : Value × Nat) => cs.setIfInBounds (off + p.2) p.1) cs.toArray) = cs1.toArray := by
            rw [← hfold]
            rw [← Array.foldl_toList, Array.toList_zipIdx]
          have h2 := fill_eq (pl := pl) (cs := cs1) (by simpa using hl) (fun k p v hk hv => hp (k + 1) p v (by simpa using hk) (by simpa using hv)) h
          rw [← h2]
          congr 1
        · cases h
      · cases h
    · cases h
theorem evp_eq {D : List Deferred} {a : Act} (ha : View n D a E) : ∀ {xs : List (Nat × Operand)} {ps : List (Nat × List Value)}, evp E xs = some ps → ps.length = (xs.map fun (p : Nat × Operand) => (p.1, a.eval p.2)).length ∧
    ∀ (k : Nat) (p : Nat × List Value) (v : Nat × Value), ps[k]? = some p → (xs.map fun (p : Nat × Operand) => (p.1, a.eval p.2))[k]? = some v → p.1 = v.1 ∧ v.2.cells = p.2.toArray
  | [], ps, h => by simp [evp] at h; subst h; simp
  | (i, x) :: xs, ps, h => by
    simp only [evp] at h
    split at h
    · rename_i v hv
      split at h
      · rename_i vs hvs
        split at h
        · rename_i r' hr
          cases h
          obtain ⟨h1, h2⟩ := evp_eq ha hr
          refine ⟨by simpa using h1, fun k p u hk hu => ?_⟩
          cases k with
          | zero =>
            simp at hk hu
            subst hk; subst hu
            exact ⟨rfl, by rw [ha.ev hv]; exact partsOf_eq hvs⟩
          | succ k => exact h2 k p u (by simpa using hk) (by simpa using hu)
        · cases h
      · cases h
    · cases h
def zerosN : Nat → List Value → List Value
  | 0, _ => []
  | k + 1, z => z ++ zerosN k z
theorem zerosN_length (z : List Value) : ∀ k, (zerosN k z).length = k * z.length
  | 0 => by simp [zerosN]
  | k + 1 => by simp [zerosN, zerosN_length z k, Nat.add_mul]; omega
theorem zerosN_at (z : List Value) : ∀ (k i : Nat), i < k * z.length → (zerosN k z)[i]? = some (z[i % z.length]!)
  | 0, i, h => by simp at h
  | k + 1, i, h => by
    simp only [zerosN]
    by_cases hi : i < z.length
    · rw [List.getElem?_append_left hi, Nat.mod_eq_of_lt hi, List.getElem?_eq_getElem hi, getElem!_pos z i hi]
    · rw [List.getElem?_append_right (by omega), zerosN_at z k (i - z.length) (by rw [Nat.add_mul] at h; omega)]
      rw [← Nat.mod_eq_sub_mod (by omega)]
theorem zerosN_array (z : List Value) (k : Nat) : (Array.range (k * z.length)).map (fun i => z.toArray[i % z.toArray.size]!) = (zerosN k z).toArray := by
  apply Array.ext_getElem?
  intro i
  by_cases hi : i < k * z.length
  · simp [hi, zerosN_at z k i hi]
  · rw [Array.getElem?_eq_none (by simp; omega), Array.getElem?_eq_none (by simp [zerosN_length]; omega)]
theorem TL_build_slice {t e : TypeId} {m len : Nat} {z : Value} {bytes : Nat} {parts : List (Nat × Operand)} {ps : List (Nat × List Value)} {zl cs : List Value} [ht : TyDesc P t (.slice e)] [he : TyElem P e z m bytes] [hz : TyZero P e z] (hd : Nat.blt d n = true) (hp : evp E parts = some ps) (hzl : partsOf z = some zl) (hzm : Nat.beq zl.length m = true) (hsmall : Nat.ble (len * m) 16777216 = true)
    (hfill : fillL (fun i => some (i * m, m)) (zerosN len zl) ps = some cs) (h : ∀ b, TL r n P ops rest ⟨D, (d, .slice (some ⟨b, 0, none⟩) len len) :: E, cells b cs e :: L⟩ K) :
    TL r n P ops (⟨some d, .buildSlice t len parts.toArray, ty, pos, af, none⟩ :: rest) ⟨D, E, L⟩ K :=
  TL_val rfl hd rfl (fun _ e => by cases e) fun W a w hh => by
    have hm : zl.length = m := Nat.eq_of_beq_eq_true hzm
    have hle : len * m ≤ 2 ^ 24 := by simpa using hsmall
    obtain ⟨e1, e2⟩ := evp_eq hh.1 hp
    have hf := fill_eq (pl := fun i => some (i * m, m)) e1 e2 hfill
    refine ⟨.slice (some ⟨w.heap.size, 0, none⟩) len len, w.alloc (.cells cs.toArray e), cells w.heap.size cs e :: L, ?_, hh.2.alloc _, h w.heap.size⟩
    have hzc := partsOf_eq hzl
    have hzero : ((Array.range (len * m)).map (fun i => (if len * m = 0 then (#[] : Array Value) else z.cells)[i % (if len * m = 0 then (#[] : Array Value) else z.cells).size]!)) = (zerosN len zl).toArray := by
      by_cases h0 : len * m = 0
      · rw [h0]
        have : (zerosN len zl) = [] := List.eq_nil_of_length_eq_zero (by rw [zerosN_length, hm]; exact h0)
        rw [this]
        simp
      · simp only [h0, if_false, hzc]
        rw [← hm]
        exact zerosN_array zl len
    simp only [execOp, Instr.buildSlice, Sem.run_bind, ht.run, Result.andThen_ok, TyElem.sz (e := e) (z := z) (bytes := bytes)]
    rw [if_neg (by omega)]
    by_cases h0 : len * m = 0
    · simp only [h0, if_true] at hzero ⊢
      simp only [Sem.run_bind, Sem.run_pure, Result.andThen_ok, hzero, List.map_toArray, hf, newRow, newObj, Sem.run]
      rfl
    · simp only [h0, if_false] at hzero ⊢
      simp only [Sem.run_bind, hz.run, Result.andThen_ok, Sem.run_pure, hzero, List.map_toArray, hf, newRow, newObj, Sem.run]
      rfl

/-- The places of a struct's fields: where, and how many cells. -/
class TyPlaces (P : Program) (t : TypeId) (pl : outParam (List (Nat × Nat))) : Prop where
  run : ∃ fs : Array Field, (∀ w, (underlying t).run P w = .ok (.struct fs) w) ∧ ∀ w, (fs.mapM fun f => do Pure.pure (f.offset, ← sizeOf f.type) : Sem (Array (Nat × Nat))).run P w = .ok pl.toArray w
def plN : List (Nat × Nat) → Nat → Option (Nat × Nat)
  | [], _ => none
  | p :: _, 0 => some p
  | _ :: l, k + 1 => plN l k
theorem plN_eq : ∀ (l : List (Nat × Nat)) (i : Nat), plN l i = l.toArray[i]?
  | [], i => by simp [plN]
  | p :: l, 0 => by simp [plN]
  | p :: l, k + 1 => by rw [plN, plN_eq l k]; simp
theorem Y_build {t : TypeId} {pl : List (Nat × Nat)} {parts : List (Nat × Operand)} {ps : List (Nat × List Value)} {zl cs : List Value} [ht : TyPlaces P t pl] [hz : TyZero P t (.agg zl.toArray)] (hp : evp E parts = some ps) (hfill : fillL (plN pl) zl ps = some cs) :
    Yl P E L (.build t parts.toArray) ty (.agg cs.toArray) := fun n D W a w dst pos af g ha hs => by
  obtain ⟨fs, h1, h2⟩ := ht.run
  obtain ⟨e1, e2⟩ := evp_eq ha hp
  have hf := fill_eq (pl := plN pl) e1 e2 hfill
  have hpl : plN pl = fun i => pl.toArray[i]? := funext fun i => plN_eq pl i
  rw [hpl] at hf
  simp only [execOp, Instr.build, Sem.run_bind, hz.run, Result.andThen_ok, h1, h2, Value.cells, List.map_toArray, hf, Sem.run_pure]
theorem Y_build_arr {t e : TypeId} {m k : Nat} {parts : List (Nat × Operand)} {ps : List (Nat × List Value)} {zl cs : List Value} [ht : TyDesc P t (.array k e)] [hm : TySize P e m] [hz : TyZero P t (.agg zl.toArray)] (hp : evp E parts = some ps) (hfill : fillL (fun i => some (i * m, m)) zl ps = some cs) :
    Yl P E L (.build t parts.toArray) ty (.agg cs.toArray) := fun n D W a w dst pos af g ha hs => by
  obtain ⟨e1, e2⟩ := evp_eq ha hp
  have hf := fill_eq (pl := fun i => some (i * m, m)) e1 e2 hfill
  simp only [execOp, Instr.build, Sem.run_bind, hz.run, Result.andThen_ok, ht.run, hm.run, Value.cells, List.map_toArray, hf, Sem.run_pure]

/-! ### Bytes and strings -/
theorem Y_bytes_str {x : Operand} {src dst0 e : TypeId} {xs : List Int} [h1 : TyDesc P src (.slice e)] [h2 : TyDesc P e (.int .u8)] [h3 : TyDesc P dst0 .string] (hx : ev E x = some (.slice A xs.length c)) (hk : SlK L (intR .u8) A c xs) : Yl P E L (.convert src dst0 x) ty (.string (strOfNums xs)) := fun n D W a w dst pos af g ha hs => by
  obtain ⟨M, hM, hsl⟩ := hs.knows hk
  have hconv : (convert src dst0 (.slice A xs.length c)).run P w = .ok (.string (strOfNums xs)) w := by
    rcases hsl.2.2 with rfl | ⟨b, o, rfl, cur, t, fr, hb, hall⟩
    · cases A with
      | none => exact run_convert_bytes_nil w src e h1.under h2.under _ _ dst0 h3.under
      | some ad =>
        simp [convert, h1.run, h2.run, h3.run, Conv.bytesToString, loadCells, loadCellsFrom, strOfNums]
        rfl
    · refine run_convert_bytes_arg w src e h1.under h2.under b o xs.length c xs rfl (fun i hi => ?_) dst0 h3.under
      obtain ⟨l, hl, hc⟩ := hall i _ (List.getElem?_eq_getElem hi)
      have := hc 0 _ (by rw [hl.1]; rfl)
      rw [cell_of (hM _ _ hb)]
      have e1 : (intR .u8).sz = 1 := rfl
      rw [e1, Nat.mul_one, Nat.add_zero] at this
      rw [this]
      simp [List.getD, List.getElem?_eq_getElem hi]
  simp [execOp, ha.ev hx, hconv]
theorem bytesWorld_rest (w : World) (e : TypeId) (s : ByteArray) : (bytesWorld w e s).os = w.os ∧ (bytesWorld w e s).tape = w.tape ∧ (bytesWorld w e s).output = w.output := by
  unfold bytesWorld World.freeze
  rw [if_neg (by decide)]
  exact ⟨rfl, rfl, rfl⟩
/-- A string's bytes in new memory, which nobody writes. -/
theorem TL_str_bytes {x : Operand} {src dst0 e : TypeId} {s : ByteArray} [h1 : TyDesc P src .string] [h2 : TyDesc P dst0 (.slice e)] [h3 : TyDesc P e (.int .u8)] (hd : Nat.blt d n = true) (hx : ev E x = some (.string s)) (hsz : s.size ≤ maxEl)
    (h : ∀ A c, TL r n P ops rest ⟨D, (d, .slice A (strBytes s).length c) :: E, sl (intR .u8) A c (strBytes s) :: L⟩ K) : TL r n P ops (⟨some d, .convert src dst0 x, ty, pos, af, none⟩ :: rest) ⟨D, E, L⟩ K :=
  TL_val rfl hd rfl (fun _ e => by cases e) fun W a w hh => by
    have hr := run_convert_string_bytes (P := P) w src dst0 e s h1.under h2.under h3.under
    have hge := grownCap_ge w s.size 0 e
    have hsat : Sat W (bytesWorld w e s) (own w.heap.size (.cells (bytesCells w e s) e ((bytesCells w e s).size, (bytesCells w e s).size + 1)) :: L) :=
      Sat.new hh.2 (bytesWorld_at_new w e s) (fun i hi => bytesWorld_at_old w e s i hi) (bytesWorld_rest w e s).1 (bytesWorld_rest w e s).2.1 (bytesWorld_rest w e s).2.2 (by rw [bytesWorld_size]; omega)
    refine ⟨_, _, sl (intR .u8) (some ⟨w.heap.size, 0, none⟩) (grownCap w s.size 0 e) (strBytes s) :: L, ?_, (Sat.freeze hsat).gives fun M k ⟨k1, k2, kd, m1, m2, hi, hs'⟩ => ?_, h _ _⟩
    · simp [execOp, hh.1.ev hx, hr, strBytes_length]
    · refine ⟨k1, k2, kd, m1, m2, ⟨by rw [strBytes_length]; exact hge, by rw [strBytes_length]; exact hsz, .inr ⟨_, 0, rfl, _, _, _, hi, fun i x hix => ?_⟩⟩, hs'⟩
      obtain ⟨l, hl, hc⟩ := (cells_of_string M s).at_ i x hix
      refine ⟨l, hl, fun j v hj => ?_⟩
      have := hc j v hj
      rw [Nat.zero_add]
      have hlt : i * (intR .u8).sz + j < (strCells s).length := (List.getElem?_eq_some_iff.1 this).1
      rw [strCells_length] at hlt
      unfold bytesCells
      rw [Array.getElem?_append_left (by simpa using hlt)]
      simpa [strCells] using this
end
end Go.SL
