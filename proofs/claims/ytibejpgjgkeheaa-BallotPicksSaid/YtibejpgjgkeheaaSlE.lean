/- The rules of the logic: how data lies in memory; slices that are read, slices that are ours; append, make, copy, indexes, cuts, len. Nothing in this text is about one program. -/
import Derived.Test.YtibejpgjgkeheaaSlD
import Derived.Lib.AppendStr
set_option linter.unusedVariables false
set_option linter.unusedSimpArgs false
namespace Go.SL
open Go Go.Lib

/-! ### Data in cells -/
structure Rep (α : Type) where
  sz : Nat
  rep : Mem → α → List Value → Prop
  mono : ∀ {M N : Mem} {x : α} {cs : List Value}, M.le N → rep M x cs → rep N x cs
  len : ∀ {M : Mem} {x : α} {cs : List Value}, rep M x cs → cs.length = sz
  one : ∀ {M : Mem} {x : α} {cs : List Value}, rep M x cs → ∀ v ∈ cs, v.oneCell' = true
def intIn (k : IntKind) (x : Int) : Prop := k.min ≤ x ∧ x ≤ k.max
theorem i64In {x : Int} (h : intIn .i64 x) : -9223372036854775808 ≤ x ∧ x ≤ 9223372036854775807 := by
  simpa [intIn, IntKind.min, IntKind.max, IntKind.signed, IntKind.bits] using h
theorem i64In_mk {x : Int} (h : -9223372036854775808 ≤ x ∧ x ≤ 9223372036854775807) : intIn .i64 x := by
  simpa [intIn, IntKind.min, IntKind.max, IntKind.signed, IntKind.bits] using h
theorem u8In {x : Int} (h : intIn .u8 x) : 0 ≤ x ∧ x ≤ 255 := by
  simpa [intIn, IntKind.min, IntKind.max, IntKind.signed, IntKind.bits] using h
theorem u8In_mk {x : Int} (h : 0 ≤ x ∧ x ≤ 255) : intIn .u8 x := by
  simpa [intIn, IntKind.min, IntKind.max, IntKind.signed, IntKind.bits] using h
theorem u64In {x : Int} (h : intIn .u64 x) : 0 ≤ x ∧ x ≤ 18446744073709551615 := by
  simpa [intIn, IntKind.min, IntKind.max, IntKind.signed, IntKind.bits] using h
theorem u64In_mk {x : Int} (h : 0 ≤ x ∧ x ≤ 18446744073709551615) : intIn .u64 x := by
  simpa [intIn, IntKind.min, IntKind.max, IntKind.signed, IntKind.bits] using h
/-- How many elements a slice has at most. -/
def maxEl : Nat := 281474976710656
def intR (k : IntKind) : Rep Int := ⟨1, fun _ x cs => cs = [.int k x] ∧ intIn k x, fun _ h => h, fun h => by simp [h.1], fun h v hv => by rw [h.1] at hv; simp at hv; subst hv; rfl⟩
def boolR : Rep Bool := ⟨1, fun _ x cs => cs = [.bool x], fun _ h => h, fun h => by simp [h], fun h v hv => by rw [h] at hv; simp at hv; subst hv; rfl⟩
def strR : Rep ByteArray := ⟨1, fun _ x cs => cs = [.string x] ∧ x.size ≤ maxEl, fun _ h => h, fun h => by simp [h.1], fun h v hv => by rw [h.1] at hv; simp at hv; subst hv; rfl⟩

/-- The elements xs lie from place o of block b on. -/
def rowsAt {α : Type} (M : Mem) (R : Rep α) (b o : Nat) (xs : List α) : Prop :=
  ∃ c t fr, M b = some (.cells c t fr) ∧ ∀ i x, xs[i]? = some x → ∃ l, R.rep M x l ∧ ∀ j v, l[j]? = some v → c[o + i * R.sz + j]? = some v
def sliceAt {α : Type} (M : Mem) (R : Rep α) (A : Option Addr) (c : Nat) (xs : List α) : Prop :=
  xs.length ≤ c ∧ xs.length ≤ maxEl ∧ (xs = [] ∨ ∃ b o, A = some ⟨b, o, none⟩ ∧ rowsAt M R b o xs)
theorem rowsAt.mono {α : Type} {M N : Mem} {R : Rep α} {b o : Nat} {xs : List α} (hM : M.le N) (h : rowsAt M R b o xs) : rowsAt N R b o xs :=
  let ⟨c, t, fr, hb, hx⟩ := h
  ⟨c, t, fr, hM _ _ hb, fun i x hi => let ⟨l, hl, hc⟩ := hx i x hi; ⟨l, R.mono hM hl, hc⟩⟩
theorem sliceAt.mono {α : Type} {M N : Mem} {R : Rep α} {A : Option Addr} {c : Nat} {xs : List α} (hM : M.le N) (h : sliceAt M R A c xs) : sliceAt N R A c xs :=
  ⟨h.1, h.2.1, h.2.2.imp id fun ⟨b, o, e, hr⟩ => ⟨b, o, e, hr.mono hM⟩⟩
theorem sliceAt.nil {α : Type} (M : Mem) (R : Rep α) (A : Option Addr) (c : Nat) : sliceAt M R A c [] := ⟨Nat.zero_le _, Nat.zero_le _, .inl rfl⟩
/-- A slice that nobody writes. -/
def sl {α : Type} (R : Rep α) (A : Option Addr) (c : Nat) (xs : List α) : HP := pers (fun M => sliceAt M R A c xs) (fun hM h => h.mono hM)
instance {α : Type} {R : Rep α} {A : Option Addr} {c : Nat} {xs : List α} : Pers (sl R A c xs) := ⟨fun _ _ h => h⟩
/-- An element's cells say x. -/
def is {α : Type} (R : Rep α) (x : α) (l : List Value) : HP := pers (fun M => R.rep M x l) (fun hM h => R.mono hM h)
instance {α : Type} {R : Rep α} {x : α} {l : List Value} : Pers (is R x l) := ⟨fun _ _ h => h⟩
def SlK {α : Type} (L : List HP) (R : Rep α) (A : Option Addr) (c : Nat) (xs : List α) : Prop := Knows L (fun M => sliceAt M R A c xs)
def IsK {α : Type} (L : List HP) (R : Rep α) (x : α) (l : List Value) : Prop := Knows L (fun M => R.rep M x l)
class FindSl (L : List HP) (A : Option Addr) (c : Nat) (α : outParam Type) (R : outParam (Rep α)) (xs : outParam (List α)) : Prop where
  k : SlK L R A c xs
instance findSl_tail {p : HP} {L : List HP} {A : Option Addr} {c : Nat} {α : Type} {R : Rep α} {xs : List α} [h : FindSl L A c α R xs] : FindSl (p :: L) A c α R xs := ⟨Knows.tail h.k⟩
instance findSl_head {L : List HP} {A : Option Addr} {c : Nat} {α : Type} {R : Rep α} {xs : List α} : FindSl (sl R A c xs :: L) A c α R xs := ⟨Knows.head' fun _ _ h => h⟩
theorem slk {L : List HP} {A : Option Addr} {c : Nat} {α : Type} {R : Rep α} {xs : List α} [h : FindSl L A c α R xs] : SlK L R A c xs := h.k
theorem slnil {L : List HP} {A : Option Addr} {c : Nat} {α : Type} {R : Rep α} : SlK L R A c ([] : List α) := Knows.const fun M => sliceAt.nil M R A c
theorem SlK.tail {p : HP} {L : List HP} {A : Option Addr} {c : Nat} {α : Type} {R : Rep α} {xs : List α} (h : SlK L R A c xs) : SlK (p :: L) R A c xs := Knows.tail h
theorem SlK.lay {L : List HP} {A : Option Addr} {c : Nat} {α : Type} {R : Rep α} {xs : List α} (h : SlK L R A c xs) : Gives L (sl R A c xs :: L) := Knows.lay h
theorem SlK.of_gives {L L' : List HP} {A : Option Addr} {c : Nat} {α : Type} {R : Rep α} {xs : List α} (g : Gives L L') (h : SlK L' R A c xs) : SlK L R A c xs := Knows.of_gives g h
theorem SlK.len {L : List HP} {A : Option Addr} {c : Nat} {α : Type} {R : Rep α} {xs : List α} (h : SlK L R A c xs) : Knows L (fun _ => xs.length ≤ c ∧ xs.length ≤ maxEl) := h.mono fun M h => ⟨h.1, h.2.1⟩

/-- A slice that is ours, with all that lies behind it in its block. -/
def oslAt {α : Type} (M h : Mem) (R : Rep α) (t : TypeId) (A : Option Addr) (c : Nat) (xs : List α) : Prop :=
  xs.length ≤ maxEl ∧ ((c = 0 ∧ xs = []) ∨ ∃ g cur, A = some ⟨g, 0, none⟩ ∧ h g = some (.cells cur t (0, 0)) ∧ cur.size = c * R.sz ∧ xs.length ≤ c ∧ c ≤ 9223372036854775807 ∧
    ∀ i x, xs[i]? = some x → ∃ l, R.rep M x l ∧ ∀ j v, l[j]? = some v → cur[i * R.sz + j]? = some v)
def osl {α : Type} (R : Rep α) (t : TypeId) (A : Option Addr) (c : Nat) (xs : List α) : HP :=
  ⟨fun M h => oslAt M h R t A c xs, fun hM hh h => ⟨h.1, h.2.imp id fun ⟨g, cur, e, hg, hs, hl, hc, hx⟩ => ⟨g, cur, e, hh _ _ hg, hs, hl, hc, fun i x hi => let ⟨l, hl, hc⟩ := hx i x hi; ⟨l, R.mono hM hl, hc⟩⟩⟩⟩
class FindO (L : List HP) (A : Option Addr) (c : Nat) (α : outParam Type) (R : outParam (Rep α)) (t : outParam TypeId) (xs : outParam (List α)) (L' : outParam (List HP)) : Prop where
  g : Gives L (osl R t A c xs :: L')
instance findO_tail {p : HP} {L L' : List HP} {A : Option Addr} {c : Nat} {α : Type} {R : Rep α} {t : TypeId} {xs : List α} [h : FindO L A c α R t xs L'] : FindO (p :: L) A c α R t xs (p :: L') := ⟨(Gives.cons p h.g).trans (Gives.swap p _ _)⟩
instance findO_head {L : List HP} {A : Option Addr} {c : Nat} {α : Type} {R : Rep α} {t : TypeId} {xs : List α} : FindO (osl R t A c xs :: L) A c α R t xs L := ⟨Gives.refl _⟩
theorem osl_nil {α : Type} (R : Rep α) (t : TypeId) (A : Option Addr) (L : List HP) : Gives L (osl R t A 0 [] :: L) := fun M m x =>
  ⟨Mem.emp, m, Mem.emp_disj _, Mem.emp_le _, Mem.le_refl _, ⟨Nat.zero_le _, .inl ⟨rfl, rfl⟩⟩, x⟩
theorem osl_len {α : Type} {R : Rep α} {t : TypeId} {A : Option Addr} {c : Nat} {xs : List α} {L : List HP} : Knows (osl R t A c xs :: L) (fun _ => xs.length ≤ c ∧ xs.length ≤ maxEl) := fun M m ⟨h1, h2, hd, l1, l2, hp, hs⟩ => by
  refine ⟨?_, hp.1⟩
  rcases hp.2 with ⟨rfl, rfl⟩ | ⟨g, cur, _, _, _, hl, _⟩
  · simp
  · exact hl
/-- Nobody shall write it any more. -/
theorem freeze_osl {α : Type} {R : Rep α} {t : TypeId} {A : Option Addr} {c : Nat} {xs : List α} {L : List HP} {o w : World} (h : Sat o w (osl R t A c xs :: L)) : Sat o w (sl R A c xs :: L) := by
  obtain ⟨M, k, hd, hM, hk, h1, h2, hd', l1, l2, hp, hs⟩ := h.ex
  rcases hp.2 with ⟨rfl, rfl⟩ | ⟨g, cur, rfl, hg, hsz, hl, hc, hx⟩
  · exact ⟨⟨M, k, hd, hM, hk, Mem.emp, h2, Mem.emp_disj _, Mem.emp_le _, l2, sliceAt.nil _ _ _ _, hs⟩, h.os, h.tape, h.output, h.size⟩
  · -- the block is turned into one that nobody writes
    have hsat : Sat o w (own g (.cells cur t (0, 0)) :: pers (fun M => ∀ i x, xs[i]? = some x → ∃ l, R.rep M x l ∧ ∀ j v, l[j]? = some v → cur[i * R.sz + j]? = some v) (fun hM h i x hi => let ⟨l, a, b⟩ := h i x hi; ⟨l, R.mono hM a, b⟩) :: L) :=
      ⟨⟨M, k, hd, hM, hk, h1, h2, hd', l1, l2, hg, Mem.emp, h2, Mem.emp_disj _, Mem.emp_le _, Mem.le_refl _, hx, hs⟩, h.os, h.tape, h.output, h.size⟩
    refine (Sat.freeze hsat).gives fun M m ⟨k1, k2, kd, m1, m2, hi, k3, k4, kd', m3, m4, hx', hs'⟩ => ?_
    refine ⟨Mem.emp, k4, Mem.emp_disj _, Mem.emp_le _, Mem.le_trans m4 m2, ⟨hl, hp.1, .inr ⟨g, 0, rfl, cur, t, (0, 0), hi, fun i x hix => ?_⟩⟩, hs'⟩
    obtain ⟨l, a, b⟩ := hx' i x hix
    exact ⟨l, a, fun j v hj => by rw [Nat.zero_add]; exact b j v hj⟩

section
variable {r : Option Nat} {n : Nat} {P : Program} {ops : Array Oper} {rest : List Oper} {K : St → Prop} {Q : Exit → St → Prop} {D : List Deferred} {E : Env} {L L' : List HP} {d : Nat} {ty : TypeId} {pos : String} {af : Array Edge}
variable {α : Type} {R : Rep α} {A : Option Addr} {c : Nat} {xs : List α}

theorem TL_freeze_osl {t : TypeId} (h : TL r n P ops rest ⟨D, E, sl R A c xs :: L⟩ K) : TL r n P ops rest ⟨D, E, osl R t A c xs :: L⟩ K := fun W a w hh => h W a w ⟨hh.1, freeze_osl hh.2⟩
theorem T_freeze_osl {c' : Code} {t : TypeId} (h : T r n P c' ⟨D, E, sl R A c xs :: L⟩ Q) : T r n P c' ⟨D, E, osl R t A c xs :: L⟩ Q := fun W a w hh => h W a w ⟨hh.1, freeze_osl hh.2⟩
/-- Where a slice that is not empty lies. -/
theorem T_open {c' : Code} (hk : SlK L R A c xs) (hx : 0 < xs.length) (h : ∀ b o, A = some ⟨b, o, none⟩ → T r n P c' ⟨D, E, L⟩ Q) : T r n P c' ⟨D, E, L⟩ Q := fun W a w hh => by
  obtain ⟨M, hM, hs⟩ := hh.2.knows hk
  rcases hs.2.2 with e | ⟨b, o, e, _⟩
  · rw [e] at hx; simp at hx
  · exact h b o e W a w hh
theorem TL_open (hk : SlK L R A c xs) (hx : 0 < xs.length) (h : ∀ b o, A = some ⟨b, o, none⟩ → TL r n P ops rest ⟨D, E, L⟩ K) : TL r n P ops rest ⟨D, E, L⟩ K := fun W a w hh => by
  obtain ⟨M, hM, hs⟩ := hh.2.knows hk
  rcases hs.2.2 with e | ⟨b, o, e, _⟩
  · rw [e] at hx; simp at hx
  · exact h b o e W a w hh
/-- An element's cells are laid open. -/
theorem elem_gives {b o : Nat} (hk : SlK L R (some ⟨b, o, none⟩) c xs) {i : Int} {x : α} (hx : xs[i.toNat]? = some x) : ∀ W w, Sat W w L → ∃ l, Sat W w (row b (o + i.toNat * R.sz) l :: is R x l :: L) := fun W w hs => by
  obtain ⟨M, m, hd, hM, hm, hsep⟩ := hs.ex
  obtain ⟨h1, h2, h3⟩ := hk M m hsep
  rcases h3 with e | ⟨b', o', e, cs, t, fr, hb, hall⟩
  · rw [e] at hx; simp at hx
  · cases e
    obtain ⟨l, hl, hc⟩ := hall _ _ hx
    exact ⟨l, ⟨⟨M, m, hd, hM, hm, Mem.emp, m, Mem.emp_disj _, Mem.emp_le _, Mem.le_refl _, ⟨cs, t, fr, hb, hc⟩, Mem.emp, m, Mem.emp_disj _, Mem.emp_le _, Mem.le_refl _, hl, hsep⟩, hs.os, hs.tape, hs.output, hs.size⟩⟩
theorem T_elem {c' : Code} {b o : Nat} (hk : SlK L R (some ⟨b, o, none⟩) c xs) (i : Int) {x : α} (hx : xs[i.toNat]? = some x) (h : ∀ l, T r n P c' ⟨D, E, row b (o + i.toNat * R.sz) l :: is R x l :: L⟩ Q) : T r n P c' ⟨D, E, L⟩ Q := fun W a w hh => by
  obtain ⟨l, hl⟩ := elem_gives hk hx W w hh.2
  exact h l W a w ⟨hh.1, hl⟩
theorem TL_elem {b o : Nat} (hk : SlK L R (some ⟨b, o, none⟩) c xs) (i : Int) {x : α} (hx : xs[i.toNat]? = some x) (h : ∀ l, TL r n P ops rest ⟨D, E, row b (o + i.toNat * R.sz) l :: is R x l :: L⟩ K) : TL r n P ops rest ⟨D, E, L⟩ K := fun W a w hh => by
  obtain ⟨l, hl⟩ := elem_gives hk hx W w hh.2
  exact h l W a w ⟨hh.1, hl⟩

/-! ### Lengths, addresses of elements, cuts -/
theorem Y_len {x : Operand} {t e : TypeId} {k : Nat} [ht : TyDesc P t (.slice e)] (hx : ev E x = some (.slice A k c)) : Yl P E L (.call { callee := .builtin .len, args := #[x], argTypes := #[t] }) ty (.int .i64 (k : Int)) := fun n D W a w dst pos af g ha hs => by
  simp [execOp, resolve, invoke, builtin, Builtin.len_, ha.ev hx, ht.run, goInt]
theorem Y_len_str {x : Operand} {t : TypeId} {s : ByteArray} [ht : TyDesc P t .string] (hx : ev E x = some (.string s)) : Yl P E L (.call { callee := .builtin .len, args := #[x], argTypes := #[t] }) ty (.int .i64 (s.size : Int)) := fun n D W a w dst pos af g ha hs => by
  simp [execOp, resolve, invoke, builtin, Builtin.len_, ha.ev hx, ht.run, goInt]
theorem Y_index_addr {x i : Operand} {t e : TypeId} {k m b o : Nat} {ik : IntKind} {j : Int} [ht : TyDesc P t (.slice e)] [hz : TySize P e m] (hx : ev E x = some (.slice (some ⟨b, o, none⟩) k c)) (hi : ev E i = some (.int ik j)) (hb : 0 ≤ j ∧ j < (k : Int)) :
    Yl P E L (.indexAddr t x i) ty (.pointer (some ⟨b, o + j.toNat * m + 0, none⟩)) := fun n D W a w dst pos af g ha hs => by
  simp [execOp, Instr.indexAt, ha.ev hx, ha.ev hi, asIntOf, ht.run, hz.run, hb, Addr.add_plain]
theorem Y_index_str {x i : Operand} {t : TypeId} {ik : IntKind} {j : Int} {s : ByteArray} [ht : TyDesc P t .string] (hx : ev E x = some (.string s)) (hi : ev E i = some (.int ik j)) (hb : 0 ≤ j ∧ j < (s.size : Int)) :
    Yl P E L (.index t x i) ty (.int .u8 ((s[j.toNat]'(by omega)).toNat)) := fun n D W a w dst pos af g ha hs => by
  have hj : j.toNat < s.size := by omega
  have : s[j.toNat]? = some (s[j.toNat]'hj) := getElem?_pos s j.toNat hj
  simp [execOp, Instr.index, ha.ev hx, ha.ev hi, asIntOf, ht.run, hb, this]
/-- A cut of a slice, as a value. -/
def cutA (A : Option Addr) (l cap sz : Nat) : Option Addr := if cap = l then A else A.map (·.add (l * sz))
theorem run_bound {y : Nat} {k : IntKind} {i : Int} {code : BoundsCode} {w : World} (h : 0 ≤ i ∧ i ≤ (y : Int)) : (Instr.sliceBound (.int k i) y code).run P w = .ok i.toNat w := by
  simp [Instr.sliceBound, asIntOf, h]
theorem Y_cut_lh {x lo hi : Operand} {t e : TypeId} {k m : Nat} {k1 k2 : IntKind} {i j : Int} [ht : TyDesc P t (.slice e)] [hz : TySize P e m] (hx : ev E x = some (.slice A k c)) (hl : ev E lo = some (.int k1 i)) (hh : ev E hi = some (.int k2 j)) (hb : 0 ≤ i ∧ i ≤ j ∧ j ≤ (c : Int)) :
    Yl P E L (.slice t x (some lo) (some hi) none) ty (.slice (cutA A i.toNat c m) (j.toNat - i.toNat) (c - i.toNat)) := fun n D W a w dst pos af g ha hs => by
  have h1 : i ≤ ((j.toNat : Nat) : Int) := by omega
  have h2 : 0 ≤ j := by omega
  have r1 : ∀ code w, (Instr.sliceBound (.int k2 j) c code).run P w = .ok j.toNat w := fun _ _ => run_bound ⟨h2, hb.2.2⟩
  have r2 : ∀ code w, (Instr.sliceBound (.int k1 i) j.toNat code).run P w = .ok i.toNat w := fun _ _ => run_bound ⟨hb.1, h1⟩
  simp [execOp, Instr.sliceAt, Instr.slice, Instr.sliceBounds, ha.ev hx, ha.ev hl, ha.ev hh, ht.run, hz.run, r1, r2, cutA]
theorem Y_cut_l {x lo : Operand} {t e : TypeId} {k m : Nat} {k1 : IntKind} {i : Int} [ht : TyDesc P t (.slice e)] [hz : TySize P e m] (hx : ev E x = some (.slice A k c)) (hl : ev E lo = some (.int k1 i)) (hb : 0 ≤ i ∧ i ≤ (k : Int)) :
    Yl P E L (.slice t x (some lo) none none) ty (.slice (cutA A i.toNat c m) (k - i.toNat) (c - i.toNat)) := fun n D W a w dst pos af g ha hs => by
  simp [execOp, Instr.sliceAt, Instr.slice, Instr.sliceBounds, ha.ev hx, ha.ev hl, ht.run, hz.run, Instr.sliceBound, asIntOf, hb, cutA]
theorem Y_cut_h {x hi : Operand} {t e : TypeId} {k m : Nat} {k2 : IntKind} {j : Int} [ht : TyDesc P t (.slice e)] [hz : TySize P e m] (hx : ev E x = some (.slice A k c)) (hh : ev E hi = some (.int k2 j)) (hb : 0 ≤ j ∧ j ≤ (c : Int)) :
    Yl P E L (.slice t x none (some hi) none) ty (.slice A j.toNat c) := fun n D W a w dst pos af g ha hs => by
  have : (if c = 0 then A else A.map (·.add (0 * m))) = A := by
    split
    · rfl
    · cases A <;> simp [Addr.add]
  simp [execOp, Instr.sliceAt, Instr.slice, Instr.sliceBounds, ha.ev hx, ha.ev hh, ht.run, hz.run, Instr.sliceBound, asIntOf, hb]
  cases A <;> simp [Addr.add]
theorem Y_cut_lhm {x lo hi mx : Operand} {t e : TypeId} {k m : Nat} {k1 k2 k3 : IntKind} {i j q : Int} [ht : TyDesc P t (.slice e)] [hz : TySize P e m] (hx : ev E x = some (.slice A k c)) (hl : ev E lo = some (.int k1 i)) (hh : ev E hi = some (.int k2 j)) (hm : ev E mx = some (.int k3 q)) (hb : 0 ≤ i ∧ i ≤ j ∧ j ≤ q ∧ q ≤ (c : Int)) :
    Yl P E L (.slice t x (some lo) (some hi) (some mx)) ty (.slice (cutA A i.toNat q.toNat m) (j.toNat - i.toNat) (q.toNat - i.toNat)) := fun n D W a w dst pos af g ha hs => by
  have h1 : i ≤ ((j.toNat : Nat) : Int) := by omega
  have h2 : 0 ≤ j := by omega
  have h3 : 0 ≤ q := by omega
  have h4 : j ≤ ((q.toNat : Nat) : Int) := by omega
  have r0 : ∀ code w, (Instr.sliceBound (.int k3 q) c code).run P w = .ok q.toNat w := fun _ _ => run_bound ⟨h3, hb.2.2.2⟩
  have r1 : ∀ code w, (Instr.sliceBound (.int k2 j) q.toNat code).run P w = .ok j.toNat w := fun _ _ => run_bound ⟨h2, h4⟩
  have r2 : ∀ code w, (Instr.sliceBound (.int k1 i) j.toNat code).run P w = .ok i.toNat w := fun _ _ => run_bound ⟨hb.1, h1⟩
  simp [execOp, Instr.sliceAt, Instr.slice, Instr.sliceBounds, ha.ev hx, ha.ev hl, ha.ev hh, ha.ev hm, ht.run, hz.run, r0, r1, r2, cutA]
theorem Y_cut_hm {x hi mx : Operand} {t e : TypeId} {k m : Nat} {k2 k3 : IntKind} {j q : Int} [ht : TyDesc P t (.slice e)] [hz : TySize P e m] (hx : ev E x = some (.slice A k c)) (hh : ev E hi = some (.int k2 j)) (hm : ev E mx = some (.int k3 q)) (hb : 0 ≤ j ∧ j ≤ q ∧ q ≤ (c : Int)) :
    Yl P E L (.slice t x none (some hi) (some mx)) ty (.slice A j.toNat q.toNat) := fun n D W a w dst pos af g ha hs => by
  have h2 : 0 ≤ j := by omega
  have h3 : 0 ≤ q := by omega
  have h4 : j ≤ ((q.toNat : Nat) : Int) := by omega
  have r0 : ∀ code w, (Instr.sliceBound (.int k3 q) c code).run P w = .ok q.toNat w := fun _ _ => run_bound ⟨h3, hb.2.2⟩
  have r1 : ∀ code w, (Instr.sliceBound (.int k2 j) q.toNat code).run P w = .ok j.toNat w := fun _ _ => run_bound ⟨h2, h4⟩
  cases A <;> simp [execOp, Instr.sliceAt, Instr.slice, Instr.sliceBounds, ha.ev hx, ha.ev hh, ha.ev hm, ht.run, hz.run, r0, r1, Addr.add]
theorem Y_cut_str {x : Operand} {lo hi : Option Operand} {t : TypeId} {s : ByteArray} {i j : Nat} {k1 k2 : IntKind} [ht : TyDesc P t .string] (hx : ev E x = some (.string s)) (hl : lo = none ∧ i = 0 ∨ ∃ y, lo = some y ∧ ev E y = some (.int k1 (i : Int))) (hh : hi = none ∧ j = s.size ∨ ∃ y, hi = some y ∧ ev E y = some (.int k2 (j : Int))) (hb : i ≤ j ∧ j ≤ s.size) :
    Yl P E L (.slice t x lo hi none) ty (.string (s.extract i j)) := fun n D W a w dst pos af g ha hs => by
  have h1 : (i : Int) ≤ (j : Int) := by omega
  have h2 : (j : Int) ≤ (s.size : Int) := by omega
  have h3 : (i : Int) ≤ (s.size : Int) := by omega
  rcases hl with ⟨rfl, rfl⟩ | ⟨y, rfl, hy⟩ <;> rcases hh with ⟨rfl, rfl⟩ | ⟨z, rfl, hz⟩
  · simp [execOp, Instr.sliceAt, Instr.slice, Instr.sliceBounds, ha.ev hx, ht.run]
  · simp [execOp, Instr.sliceAt, Instr.slice, Instr.sliceBounds, ha.ev hx, ha.ev hz, ht.run, Instr.sliceBound, asIntOf, hb, h1, h2]
  · simp [execOp, Instr.sliceAt, Instr.slice, Instr.sliceBounds, ha.ev hx, ha.ev hy, ht.run, Instr.sliceBound, asIntOf, hb, h1, h2, h3]
  · simp [execOp, Instr.sliceAt, Instr.slice, Instr.sliceBounds, ha.ev hx, ha.ev hy, ha.ev hz, ht.run, Instr.sliceBound, asIntOf, hb, h1, h2, h3]
theorem sliceAt.cut {M : Mem} (h : sliceAt M R A c xs) (i j cap : Nat) (hij : i ≤ j) (hj : j ≤ xs.length) (hcap : j ≤ cap) : sliceAt M R (cutA A i cap R.sz) (cap - i) ((xs.take j).drop i) := by
  have hlen : ((xs.take j).drop i).length = j - i := by simp; omega
  refine ⟨by rw [hlen]; omega, by rw [hlen]; have := h.2.1; omega, ?_⟩
  by_cases hij' : i = j
  · left; apply List.eq_nil_of_length_eq_zero; omega
  · rcases h.2.2 with e | ⟨b, o, rfl, cs, t, fr, hb, hall⟩
    · subst e; left; simp
    · right
      refine ⟨b, o + i * R.sz, ?_, cs, t, fr, hb, fun k x hk => ?_⟩
      · unfold cutA; rw [if_neg (by omega)]; simp [Addr.add_plain]
      · rw [List.getElem?_drop, List.getElem?_take] at hk
        split at hk
        · obtain ⟨l, hl, hc⟩ := hall _ _ hk
          refine ⟨l, hl, fun q v hq => ?_⟩
          have := hc q v hq
          rwa [Nat.add_mul, ← Nat.add_assoc] at this
        · cases hk
theorem SlK.cut (h : SlK L R A c xs) (i j cap : Nat) (hij : i ≤ j) (hj : j ≤ xs.length) (hcap : j ≤ cap) : SlK L R (cutA A i cap R.sz) (cap - i) ((xs.take j).drop i) := h.mono fun M h => h.cut i j cap hij hj hcap

/-! ### append -/
theorem run_typeInfo {e : TypeId} {z : Value} {size bytes : Nat} [h : TyElem P e z size bytes] : ∃ i, P.info? e = some i ∧ i.zero = some z ∧ i.size = size ∧ i.bytes = bytes := by
  have := h.info
  cases hi : P.info? e with
  | none => rw [hi] at this; cases this
  | some i =>
    rw [hi] at this
    simp only [Option.map_some, Option.some.injEq, Prod.mk.injEq] at this
    exact ⟨i, rfl, this.1, this.2.1, this.2.2⟩
theorem not_int {dsc : TypeDesc} (h : ∀ k, dsc ≠ .int k) : (match dsc with | .int _ => true | _ => false) = false := by
  cases dsc <;> first | rfl | (rename_i k; exact absurd rfl (h k))
theorem run_firstCells' {w w' : World} {size n c : Nat} {news : List Value} {A : Option Addr} (hw : w'.heap = w.heap) (hA : n = 0 ∨ ∃ a, A = some a ∧ ∀ j v, news[j]? = some v → w.cell? (a.add j) = some v) (hl : news.length = n * size) :
    (Builtin.firstCells size n (.slice A n c)).run P w' = .ok news.toArray w' := by
  cases A with
  | none =>
    rcases hA with rfl | ⟨a, e, _⟩
    · have : news = [] := List.eq_nil_of_length_eq_zero (by simpa using hl)
      subst this
      simp [Builtin.firstCells]
    · cases e
  | some a =>
    have hc : ∀ j v, news[j]? = some v → w'.cell? (a.add j) = some v := by
      intro j v hj
      rcases hA with rfl | ⟨a', e, hc⟩
      · have : news = [] := List.eq_nil_of_length_eq_zero (by simpa using hl)
        subst this
        simp at hj
      · cases e
        rw [← hc j v hj]
        simp only [World.cell?, hw]
    simp only [Builtin.firstCells, ← hl]
    exact run_loadCells_list w' a news hc
/-- Where the cells of what is appended come from. -/
structure Src (P : Program) (u : TypeId) (size : Nat) (v : Value) (n : Nat) (news : List Value) (w : World) : Prop where
  desc : ∃ dsc, (∀ w, (underlying u).run P w = .ok dsc w) ∧ ∀ k, dsc ≠ .int k
  len : ∀ w, (Builtin.lenOf v).run P w = .ok n w
  cells : ∀ w' : World, w'.heap = w.heap → (Builtin.firstCells size n v).run P w' = .ok news.toArray w'
  count : news.length = n * size
  one : ∀ u ∈ news, u.oneCell' = true
theorem src_slice {u e : TypeId} {w : World} {size n c : Nat} {news : List Value} {A : Option Addr} [hu : TyDesc P u (.slice e)] (hA : n = 0 ∨ ∃ a, A = some a ∧ ∀ j v, news[j]? = some v → w.cell? (a.add j) = some v) (hl : news.length = n * size) (h1 : ∀ u ∈ news, u.oneCell' = true) : Src P u size (.slice A n c) n news w := by
  exact ⟨⟨_, hu.run, fun k e => by cases e⟩, fun w => by simp [Builtin.lenOf], fun w' hw => run_firstCells' hw hA hl, hl, h1⟩
theorem src_string {u : TypeId} {w : World} {s : ByteArray} [hu : TyDesc P u .string] : Src P u 1 (.string s) s.size (strCells s) w :=
  ⟨⟨_, hu.run, fun k e => by cases e⟩, fun w => by simp [Builtin.lenOf], fun w' _ => run_firstCells_string w' 1 s, by simp [strCells_length], strCells_oneCell s⟩
theorem run_append_room' {t u e : TypeId} {z : Value} {size bytes g sLen sCap m : Nat} {cur : List Value} {w : World} {v : Value} {news : List Value} {ty' : TypeId} [ht : TyDesc P t (.slice e)] [he : TyElem P e z size bytes] (hs : Src P u size v m news w) (hg : w.heap[g]? = some (.cells cur.toArray e (0, 0)))
    (hroom : sLen + m ≤ sCap) (hfit : (sLen + m) * size ≤ cur.length) :
    (Builtin.append_ #[t, u] ty' #[.slice (some ⟨g, 0, none⟩) sLen sCap, v]).run P w = .ok (.slice (some ⟨g, 0, none⟩) (sLen + m) sCap) (w.setRow g (cur.take (sLen * size) ++ news ++ cur.drop ((sLen + m) * size)).toArray) := by
  obtain ⟨i, hi, hz, hsz, hby⟩ := run_typeInfo (P := P) (e := e) (z := z) (size := size) (bytes := bytes)
  obtain ⟨dsc, hd, hni⟩ := hs.desc
  have hst := run_storeCells_at P g (sLen * size) e news 0 cur.toArray w hg (by simp [hs.count, ← Nat.add_mul]; exact hfit) hs.one
  simp only [Nat.add_zero] at hst
  have hb := not_int hni
  have hc := hs.cells w rfl
  simp [Builtin.append_, ht.run, hd, hb, sizeOf, typeInfo, hi, hsz, hs.len, hroom, hc, Addr.add_plain, hst, hs.count, Nat.add_mul]
theorem run_append_none' {t u e : TypeId} {z : Value} {size bytes sLen sCap : Nat} {A : Option Addr} {w : World} {v : Value} {ty' : TypeId} [ht : TyDesc P t (.slice e)] [he : TyElem P e z size bytes] (hs : Src P u size v 0 [] w) (hroom : sLen ≤ sCap) :
    (Builtin.append_ #[t, u] ty' #[.slice A sLen sCap, v]).run P w = .ok (.slice A sLen sCap) w := by
  obtain ⟨i, hi, hz, hsz, hby⟩ := run_typeInfo (P := P) (e := e) (z := z) (size := size) (bytes := bytes)
  obtain ⟨dsc, hd, hni⟩ := hs.desc
  have hb := not_int hni
  have hc := hs.cells w rfl
  cases A <;> simp [Builtin.append_, ht.run, hd, hb, sizeOf, typeInfo, hi, hsz, hs.len, hroom, hc, storeCells]
theorem run_append_grow' {t u e : TypeId} {z : Value} {size bytes sLen sCap m : Nat} {A : Option Addr} {w : World} {v : Value} {olds news : List Value} {ty' : TypeId} [ht : TyDesc P t (.slice e)] [he : TyElem P e z size bytes] (hs : Src P u size v m news w)
    (hlo : olds.length = sLen * size) (holds : sLen = 0 ∨ ∃ a, A = some a ∧ ∀ j v, olds[j]? = some v → w.cell? (a.add j) = some v) (hg : sCap < sLen + m) (h63 : sLen + m ≤ 9223372036854775807) (hfit : (sLen + m) * bytes ≤ 140737488355328) :
    (Builtin.append_ #[t, u] ty' #[.slice A sLen sCap, v]).run P w = .ok (.slice (some ⟨w.heap.size, 0, none⟩) (sLen + m) (grownCap w (sLen + m) sCap e))
      (w.drew.alloc (.cells (olds.toArray ++ news.toArray ++ Builtin.zeroCells z.cells (grownCap w (sLen + m) sCap e - (sLen + m))) e)) := by
  obtain ⟨i, hi, hz, hsz, hby⟩ := run_typeInfo (P := P) (e := e) (z := z) (size := size) (bytes := bytes)
  obtain ⟨dsc, hd, hni⟩ := hs.desc
  have hb := not_int hni
  have hn : ¬ (sLen + m ≤ sCap) := by omega
  have h63' : ¬ (9223372036854775807 < ((sLen : Int) + (m : Int))) := by omega
  have h48 := growslice_fits hg hfit
  have h48' : ¬ (281474976710656 < Builtin.nextslicecap (sLen + m) sCap * bytes) := by omega
  have hc := hs.cells w.drew rfl
  have hfo : (Builtin.firstCells size sLen (.slice A sLen sCap)).run P w.drew = .ok olds.toArray w.drew := run_firstCells' (w := w) rfl holds hlo
  simp [Builtin.append_, ht.run, hd, hb, sizeOf, typeInfo, zeroValue, hi, hz, hsz, hby, hs.len, hn, h63', h48', Question.forced, hc, hfo, newRow, grownCap]
  rw [← List.append_toArray, Array.append_assoc]
end
end Go.SL
