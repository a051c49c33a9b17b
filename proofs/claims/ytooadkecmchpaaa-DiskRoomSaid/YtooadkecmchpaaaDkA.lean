/- Disk: told plainly. -/
import Derived.Sort.Walk0
import Derived.Test.YtooadkecmchpaaaCodE
import Derived.Test.YtooadkecmchpaaaSlU
set_option linter.unusedVariables false
set_option linter.unusedSimpArgs false
namespace Go.SL
open Go
/-! ### Names stand in order -/
def ltN (a b : ByteArray) : Bool := Op.bytesLess a.toList b.toList
theorem ltN_iff {a b : ByteArray} : ltN a b = true ↔ a.data.toList < b.data.toList := by
  unfold ltN; rw [Go.Proofs.bytesLess_eq, ByteArray.toList_eq, ByteArray.toList_eq]; simp
theorem ltN_trans {a b c : ByteArray} (h1 : ltN a b = true) (h2 : ltN b c = true) : ltN a c = true := by
  rw [ltN_iff] at *; exact List.lt_trans h1 h2
theorem ltN_irr (a : ByteArray) : ¬ ltN a a = true := by
  rw [ltN_iff]; exact List.lt_irrefl _
theorem ltN_tot {a b : ByteArray} (h : a ≠ b) (h2 : ¬ ltN a b = true) : ltN b a = true := by
  rw [ltN_iff] at *
  refine Classical.byContradiction fun h3 => h ?_
  have h4 : a.data.toList = b.data.toList := List.le_antisymm (List.not_lt.1 h3) (List.not_lt.1 h2)
  cases a; cases b
  exact congrArg ByteArray.mk (Array.toList_inj.1 h4)
/-! ### Files -/
structure FileE where
  name : ByteArray
  blk : Nat
  bytes : List Int
  synced : Int
def findF (l : List FileE) (k : ByteArray) : Option FileE := l.find? fun e => decide (e.name = k)
def delF (l : List FileE) (k : ByteArray) : List FileE := l.filter fun e => !decide (e.name = k)
def putF (l : List FileE) (e : FileE) : List FileE := insW (fun q : FileE => ltN q.name e.name) e (delF l e.name)
def totF (l : List FileE) : Nat := (l.map fun e => e.bytes.length).sum
def IncF (l : List FileE) : Prop := l.Pairwise fun p q => ltN p.name q.name = true
structure DkS where
  size : Int
  calls : Int
  l : List FileE
structure KI (s : DkS) : Prop where
  size : 0 ≤ s.size ∧ s.size ≤ 268435456
  calls : -1 ≤ s.calls ∧ intIn .i64 s.calls
  inc : IncF s.l
  len : s.l.length ≤ 64
  tot : (totF s.l : Int) ≤ s.size
  ok : ∀ e ∈ s.l, e.name.size ≤ 32 ∧ 0 ≤ e.synced ∧ e.synced ≤ (e.bytes.length : Int) ∧ ∀ x ∈ e.bytes, 0 ≤ x ∧ x ≤ 255
def leftK (s : DkS) : Int := s.size - (totF s.l : Int)
def doneK (s : DkS) : DkS := ⟨s.size, if 0 < s.calls then s.calls - 1 else s.calls, s.l⟩
section
variable {l : List FileE} {s : DkS}
theorem findF_mem {k : ByteArray} {e : FileE} (h : findF l k = some e) : e ∈ l ∧ e.name = k := ⟨List.mem_of_find?_eq_some h, by simpa using List.find?_some h⟩
theorem findF_none {k : ByteArray} : findF l k = none ↔ ∀ e ∈ l, e.name ≠ k := by unfold findF; rw [List.find?_eq_none]; simp
theorem mem_delF {k : ByteArray} {e : FileE} : e ∈ delF l k ↔ e ∈ l ∧ e.name ≠ k := by unfold delF; rw [List.mem_filter]; simp
theorem IncF.del (h : IncF l) (k : ByteArray) : IncF (delF l k) := h.filter _
theorem mem_putF {e q : FileE} : q ∈ putF l e ↔ q = e ∨ (q ∈ l ∧ q.name ≠ e.name) := by unfold putF; rw [mem_insW, mem_delF]
theorem IncF.put (h : IncF l) (e : FileE) : IncF (putF l e) :=
  insW_sorted (h.del _) (fun q _ hq => hq) (fun q hq hlt => ltN_tot (fun e2 => (mem_delF.1 hq).2 e2) (by rw [hlt]; simp)) (fun a _ b _ hab hb => ltN_trans hab hb)
theorem IncF.inj (h : IncF l) {p q : FileE} (hp : p ∈ l) (hq : q ∈ l) (e : p.name = q.name) : p = q := by
  obtain ⟨i, hi, rfl⟩ := List.mem_iff_getElem.1 hp
  obtain ⟨j, hj, rfl⟩ := List.mem_iff_getElem.1 hq
  rcases Nat.lt_trichotomy i j with h1 | h1 | h1
  · have := (List.pairwise_iff_getElem.1 h) i j hi hj h1; rw [e] at this; exact absurd this (ltN_irr _)
  · subst h1; rfl
  · have := (List.pairwise_iff_getElem.1 h) j i hj hi h1; rw [e] at this; exact absurd this (ltN_irr _)
theorem IncF.find (h : IncF l) {e : FileE} (he : e ∈ l) : findF l e.name = some e := by
  cases hf : findF l e.name with
  | none => exact absurd rfl (findF_none.1 hf e he)
  | some q => obtain ⟨h1, h2⟩ := findF_mem hf; rw [h.inj h1 he h2]
theorem delF_perm (h : IncF l) {e : FileE} (he : e ∈ l) : (e :: delF l e.name).Perm l := by
  induction l with
  | nil => cases he
  | cons x r ih =>
    obtain ⟨h1, h2⟩ := List.pairwise_cons.1 h
    unfold delF
    rw [List.filter_cons]
    rcases List.mem_cons.1 he with rfl | he
    · have hr : r.filter (fun q => !decide (q.name = e.name)) = r := List.filter_eq_self.2 fun q hq => by have := h1 q hq; simp; rintro e2; rw [e2] at this; exact ltN_irr _ this
      rw [if_neg (by simp), hr]
    · have hx : x.name ≠ e.name := fun e2 => by have := h1 e he; rw [e2] at this; exact ltN_irr _ this
      rw [if_pos (by simpa using hx)]
      exact (List.Perm.swap _ _ _).trans ((ih h2 he).cons x)
theorem delF_none {k : ByteArray} (h : findF l k = none) : delF l k = l := List.filter_eq_self.2 fun q hq => by simpa using findF_none.1 h q hq
theorem totF_cons (e : FileE) (l : List FileE) : totF (e :: l) = e.bytes.length + totF l := by simp [totF]
theorem totF_perm {a b : List FileE} (h : a.Perm b) : totF a = totF b := (h.map _).sum_nat
theorem putF_perm (e : FileE) : (putF l e).Perm (e :: delF l e.name) := insW_perm _ _ _
theorem putF_tot (e : FileE) : totF (putF l e) = e.bytes.length + totF (delF l e.name) := by rw [totF_perm (putF_perm e), totF_cons]
theorem delF_tot (h : IncF l) {e : FileE} (he : e ∈ l) : totF (delF l e.name) + e.bytes.length = totF l := by rw [← totF_perm (delF_perm h he), totF_cons]; omega
theorem delF_len (h : IncF l) {e : FileE} (he : e ∈ l) : (delF l e.name).length + 1 = l.length := by rw [← (delF_perm h he).length_eq]; rfl
theorem putF_len (e : FileE) : (putF l e).length = (delF l e.name).length + 1 := by rw [(putF_perm e).length_eq]; rfl
theorem delF_le (k : ByteArray) : (delF l k).length ≤ l.length := List.length_filter_le _ _
theorem delF_tot_le (h : IncF l) (k : ByteArray) : totF (delF l k) ≤ totF l := by
  cases hf : findF l k with
  | none => rw [delF_none hf]; exact Nat.le_refl _
  | some e => obtain ⟨h1, rfl⟩ := findF_mem hf; have := delF_tot h h1; omega
end
/-! ### What the calls do -/
def offK (s : DkS) : Prop := s.calls = 0
instance (s : DkS) : Decidable (offK s) := by unfold offK; exact inferInstance
/-- Why a file can't be changed: 31 off, 4 none. -/
def readyK (s : DkS) (k : ByteArray) : Int := if offK s then 31 else if (findF s.l k).isSome then 0 else 4
def appendK (s : DkS) (k : ByteArray) (b : List Int) (blk : Nat) : DkS × Int :=
  if ¬ isName k then (s, 30) else if offK s then (s, 31) else if leftK s < (b.length : Int) ∨ (findF s.l k = none ∧ 64 ≤ s.l.length) then (s, 2)
  else (doneK ⟨s.size, s.calls, putF s.l (match findF s.l k with | some e => ⟨k, e.blk, e.bytes ++ b, e.synced⟩ | none => ⟨k, blk, b, 0⟩)⟩, 0)
def syncK (s : DkS) (k : ByteArray) : DkS × Int := match findF s.l k with
  | some e => if offK s then (s, 31) else (doneK ⟨s.size, s.calls, putF s.l ⟨k, e.blk, e.bytes, (e.bytes.length : Int)⟩⟩, 0)
  | none => (s, if offK s then 31 else 4)
def cutK (s : DkS) (k : ByteArray) (n : Int) : DkS × Int := match findF s.l k with
  | some e => if offK s then (s, 31) else if n < 0 ∨ (e.bytes.length : Int) < n then (s, 1) else (doneK ⟨s.size, s.calls, putF s.l ⟨k, e.blk, e.bytes.take n.toNat, n⟩⟩, 0)
  | none => (s, if offK s then 31 else 4)
def removeK (s : DkS) (k : ByteArray) : DkS × Int := match findF s.l k with
  | some e => if offK s then (s, 31) else (doneK ⟨s.size, s.calls, delF s.l k⟩, 0)
  | none => (s, if offK s then 31 else 4)
def renameK (s : DkS) (k to_ : ByteArray) : DkS × Int := if ¬ isName to_ then (s, 30) else match findF s.l k with
  | some e => if offK s then (s, 31) else (doneK ⟨s.size, s.calls, putF (delF s.l k) ⟨to_, e.blk, e.bytes, e.synced⟩⟩, 0)
  | none => (s, if offK s then 31 else 4)
def stopK (s : DkS) (n : Int) : DkS := if offK s then s else ⟨s.size, max n (-1), s.l⟩
theorem KI.done {s : DkS} (h : KI s) : KI (doneK s) := by
  refine ⟨h.size, ?_, h.inc, h.len, h.tot, h.ok⟩
  have h1 := h.calls.1
  have h2 := i64In h.calls.2
  unfold doneK; dsimp only
  split
  · exact ⟨by omega, i64In_mk (by omega)⟩
  · exact ⟨h1, i64In_mk (by omega)⟩
theorem KI.append {s : DkS} (h : KI s) (k : ByteArray) (b : List Int) (blk : Nat) (hb : ∀ x ∈ b, 0 ≤ x ∧ x ≤ 255) : KI (appendK s k b blk).1 := by
  unfold appendK
  split
  · exact h
  · rename_i hn
    have hn := Classical.not_not.1 hn
    split
    · exact h
    · split
      · exact h
      · rename_i hc
        refine KI.done ?_
        have hk32 : k.size ≤ 32 := hn.2.2
        have ht := h.tot
        cases hf : findF s.l k with
        | some e =>
          obtain ⟨he, rfl⟩ := findF_mem hf
          have h1 := delF_tot h.inc he
          have h2 := delF_len h.inc he
          have h3 := h.len
          have ho := h.ok e he
          refine ⟨h.size, h.calls, h.inc.put _, by dsimp only; rw [putF_len]; dsimp only; omega, ?_, fun q hq => ?_⟩
          · dsimp only
            rw [putF_tot]; dsimp only
            unfold leftK at hc
            rw [List.length_append]; omega
          · rcases mem_putF.1 hq with rfl | ⟨hq, _⟩
            · refine ⟨hk32, ho.2.1, by dsimp only; rw [List.length_append]; have := ho.2.2.1; omega, fun x hx => ?_⟩
              rcases List.mem_append.1 hx with hx | hx
              · exact ho.2.2.2 x hx
              · exact hb x hx
            · exact h.ok q hq
        | none =>
          have h1 := delF_none hf
          have h3 : s.l.length < 64 := Nat.lt_of_not_le fun e => hc (.inr ⟨hf, e⟩)
          refine ⟨h.size, h.calls, h.inc.put _, by dsimp only; rw [putF_len]; dsimp only; rw [h1]; omega, ?_, fun q hq => ?_⟩
          · dsimp only
            rw [putF_tot]; dsimp only
            rw [h1]
            unfold leftK at hc
            omega
          · rcases mem_putF.1 hq with rfl | ⟨hq, _⟩
            · exact ⟨hk32, Int.le_refl _, by dsimp only; omega, hb⟩
            · exact h.ok q hq
theorem KI.change {s : DkS} (h : KI s) {e : FileE} (he : e ∈ s.l) (bs : List Int) (n : Int) (h1 : bs.length ≤ e.bytes.length) (h2 : ∀ x ∈ bs, 0 ≤ x ∧ x ≤ 255) (h3 : 0 ≤ n ∧ n ≤ (bs.length : Int)) : KI ⟨s.size, s.calls, putF s.l ⟨e.name, e.blk, bs, n⟩⟩ := by
  have q1 := delF_tot h.inc he
  have q2 := delF_len h.inc he
  have q3 := h.len
  have q4 := h.tot
  refine ⟨h.size, h.calls, h.inc.put _, by dsimp only; rw [putF_len]; dsimp only; omega, ?_, fun q hq => ?_⟩
  · dsimp only; rw [putF_tot]; dsimp only; omega
  · rcases mem_putF.1 hq with rfl | ⟨hq, _⟩
    · exact ⟨(h.ok e he).1, h3.1, h3.2, h2⟩
    · exact h.ok q hq
theorem KI.sync {s : DkS} (h : KI s) (k : ByteArray) : KI (syncK s k).1 := by
  unfold syncK
  cases hf : findF s.l k with
  | none => exact h
  | some e =>
    obtain ⟨he, rfl⟩ := findF_mem hf
    dsimp only
    split
    · exact h
    · exact (h.change he e.bytes _ (Nat.le_refl _) (h.ok e he).2.2.2 ⟨by omega, Int.le_refl _⟩).done
theorem KI.cut {s : DkS} (h : KI s) (k : ByteArray) (n : Int) : KI (cutK s k n).1 := by
  unfold cutK
  cases hf : findF s.l k with
  | none => exact h
  | some e =>
    obtain ⟨he, rfl⟩ := findF_mem hf
    dsimp only
    split
    · exact h
    · split
      · exact h
      · exact (h.change he _ _ (by rw [List.length_take]; omega) (fun x hx => (h.ok e he).2.2.2 x (List.mem_of_mem_take hx)) ⟨by omega, by rw [List.length_take]; omega⟩).done
theorem KI.del {s : DkS} (h : KI s) (k : ByteArray) : KI ⟨s.size, s.calls, delF s.l k⟩ :=
  ⟨h.size, h.calls, h.inc.del k, Nat.le_trans (delF_le k) h.len, by have := delF_tot_le h.inc k; have := h.tot; dsimp only; omega, fun e he => h.ok e (mem_delF.1 he).1⟩
theorem KI.remove {s : DkS} (h : KI s) (k : ByteArray) : KI (removeK s k).1 := by
  unfold removeK
  cases hf : findF s.l k with
  | none => exact h
  | some e =>
    dsimp only
    split
    · exact h
    · exact (h.del k).done
theorem KI.rename {s : DkS} (h : KI s) (k to_ : ByteArray) : KI (renameK s k to_).1 := by
  unfold renameK
  split
  · exact h
  · rename_i hn
    have hn := Classical.not_not.1 hn
    cases hf : findF s.l k with
    | none => exact h
    | some e =>
      obtain ⟨he, rfl⟩ := findF_mem hf
      dsimp only
      split
      · exact h
      · refine KI.done ?_
        have q1 := delF_tot h.inc he
        have q2 := delF_len h.inc he
        have q3 := h.len
        have q4 := h.tot
        have q5 := delF_le (l := delF s.l e.name) to_
        have q6 := delF_tot_le (h.inc.del e.name) to_
        refine ⟨h.size, h.calls, (h.inc.del _).put _, by dsimp only; rw [putF_len]; dsimp only; omega, ?_, fun q hq => ?_⟩
        · dsimp only; rw [putF_tot]; dsimp only; omega
        · rcases mem_putF.1 hq with rfl | ⟨hq, _⟩
          · exact ⟨hn.2.2, (h.ok e he).2⟩
          · exact h.ok q (mem_delF.1 hq).1
theorem KI.stop {s : DkS} (h : KI s) {n : Int} (hn : intIn .i64 n) : KI (stopK s n) := by
  unfold stopK
  split
  · exact h
  · have := i64In hn
    exact ⟨h.size, ⟨by dsimp only; omega, by dsimp only; exact i64In_mk (by omega)⟩, h.inc, h.len, h.tot, h.ok⟩
end Go.SL
