/- Dots: sets of dots, told plainly. -/
import Derived.Test.YtooadkecmchpaaaSlU
import Derived.Test.YtooadkecmchpaaaSlV
set_option linter.unusedVariables false
set_option linter.unusedSimpArgs false
namespace Go.SL
open Go
abbrev DotD := Int × Int
def mayD (d : DotD) : Prop := 0 ≤ d.1 ∧ d.1 < 7 ∧ 1 ≤ d.2 ∧ d.2 ≤ 2147483647
instance (d : DotD) : Decidable (mayD d) := by unfold mayD; exact inferInstance
def lessD (a b : DotD) : Bool := decide (a.1 < b.1 ∨ (a.1 = b.1 ∧ a.2 < b.2))
theorem lessD_iff {a b : DotD} : lessD a b = true ↔ a.1 < b.1 ∨ (a.1 = b.1 ∧ a.2 < b.2) := by simp [lessD]
/-! ### The first that is missing -/
def pfxK : Nat → List Int → Nat
  | n, [] => n
  | n, k :: r => if k = (n : Int) then pfxK (n + 1) r else n
theorem pfxK_spec : ∀ {ks : List Int} {n : Nat}, ks.Pairwise (fun x y => x < y) → (∀ k ∈ ks, (n : Int) ≤ k) → n ≤ pfxK n ks ∧ pfxK n ks ≤ n + ks.length ∧ (∀ j : Nat, n ≤ j → j < pfxK n ks → (j : Int) ∈ ks) ∧ ((pfxK n ks : Nat) : Int) ∉ ks
  | [], n, _, _ => ⟨Nat.le_refl _, Nat.le_refl _, fun j h1 h2 => by simp [pfxK] at h2; omega, by simp⟩
  | k :: r, n, hs, hn => by
    obtain ⟨h1, h2⟩ := List.pairwise_cons.1 hs
    have hk := hn k List.mem_cons_self
    by_cases e : k = (n : Int)
    · obtain ⟨q1, q2, q3, q4⟩ := pfxK_spec (n := n + 1) h2 (fun q hq => by have := h1 q hq; omega)
      simp only [pfxK, if_pos e]
      refine ⟨by omega, by simp; omega, fun j a b => ?_, fun hm => ?_⟩
      · rcases Nat.lt_or_eq_of_le a with h | h
        · exact List.mem_cons_of_mem _ (q3 j (by omega) b)
        · subst h; rw [← e]; exact List.mem_cons_self
      · rcases List.mem_cons.1 hm with h | h
        · omega
        · exact q4 h
    · simp only [pfxK, if_neg e]
      refine ⟨Nat.le_refl _, by omega, fun j a b => by omega, fun hm => ?_⟩
      rcases List.mem_cons.1 hm with h | h
      · exact e h.symm
      · have := h1 _ h; omega
theorem pfxK_eq {ks : List Int} {n m : Nat} (hs : ks.Pairwise (fun x y => x < y)) (hn : ∀ k ∈ ks, (n : Int) ≤ k) (h0 : n ≤ m) (h1 : ∀ j : Nat, n ≤ j → j < m → (j : Int) ∈ ks) (h2 : (m : Int) ∉ ks) : pfxK n ks = m := by
  obtain ⟨q1, q2, q3, q4⟩ := pfxK_spec hs hn
  rcases Nat.lt_trichotomy (pfxK n ks) m with h | h | h
  · exact absurd (h1 _ q1 h) q4
  · exact h
  · exact absurd (q3 m h0 h) h2
section
variable {α : Type} {l : List (DotD × α)}
structure DI (l : List (DotD × α)) : Prop where
  inc : l.Pairwise fun p q => lessD p.1 q.1 = true
  len : l.length ≤ 65536
  may : ∀ p ∈ l, mayD p.1
def hasD (l : List (DotD × α)) (d : DotD) : Prop := (getM l d).isSome = true
instance (d : DotD) : Decidable (hasD l d) := by unfold hasD; exact inferInstance
theorem hasD_iff {d : DotD} : hasD l d ↔ ∃ p ∈ l, p.1 = d := by
  unfold hasD
  constructor
  · intro h
    obtain ⟨e, he⟩ := Option.isSome_iff_exists.1 h
    exact ⟨_, getM_mem he, rfl⟩
  · rintro ⟨p, hp, rfl⟩
    cases h : getM l p.1 with
    | some _ => rfl
    | none => exact absurd rfl (getM_none.1 h _ hp)
theorem DI.nd (h : DI l) : ND l := h.inc.imp fun h e => by rw [lessD_iff, e] at h; omega
theorem DI.nil : DI ([] : List (DotD × α)) := ⟨List.Pairwise.nil, by simp, by simp⟩
def atO (l : List (DotD × α)) (o : Int) : List (Int × α) := (l.filter fun p => decide (p.1.1 = o)).map fun p => (p.1.2, p.2)
def keysO (l : List (DotD × α)) (o : Int) : List Int := (atO l o).map (·.1)
theorem atO_cons (p : DotD × α) (l : List (DotD × α)) (o : Int) : atO (p :: l) o = if p.1.1 = o then (p.1.2, p.2) :: atO l o else atO l o := by
  unfold atO
  rw [List.filter_cons]
  by_cases h : p.1.1 = o <;> simp [h]
theorem atO_append (a b : List (DotD × α)) (o : Int) : atO (a ++ b) o = atO a o ++ atO b o := by simp [atO]
theorem getM_atO : ∀ (l : List (DotD × α)) (o s : Int), getM (atO l o) s = getM l (o, s)
  | [], o, s => rfl
  | p :: l, o, s => by
    rw [atO_cons, getM_cons]
    by_cases h : p.1.1 = o
    · rw [if_pos h, getM_cons, getM_atO l o s]
      by_cases h2 : p.1.2 = s
      · rw [if_pos h2, if_pos (Prod.ext h h2)]
      · rw [if_neg h2, if_neg (fun e => h2 (by rw [e]))]
    · rw [if_neg h, getM_atO l o s, if_neg (fun e => h (by rw [e]))]
theorem mem_keysO {o s : Int} : s ∈ keysO l o ↔ hasD l (o, s) := by
  unfold hasD keysO
  rw [← getM_atO]
  constructor
  · intro h
    obtain ⟨p, hp, rfl⟩ := List.mem_map.1 h
    cases hg : getM (atO l o) p.1 with
    | some _ => rfl
    | none => exact absurd rfl (getM_none.1 hg _ hp)
  · intro h
    obtain ⟨e, he⟩ := Option.isSome_iff_exists.1 h
    exact List.mem_map.2 ⟨_, getM_mem he, rfl⟩
theorem DI.keys (h : DI l) (o : Int) : (keysO l o).Pairwise (fun x y => x < y) := by
  unfold keysO atO
  refine List.pairwise_map.2 (List.pairwise_map.2 ?_)
  refine (h.inc.filter (fun p => decide (p.1.1 = o))).imp_of_mem fun {a b} ha hb hab => ?_
  have h1 := (List.mem_filter.1 ha).2
  have h2 := (List.mem_filter.1 hb).2
  simp at h1 h2
  rw [lessD_iff] at hab
  show a.1.2 < b.1.2
  omega
theorem DI.has_may (h : DI l) {d : DotD} (hd : hasD l d) : mayD d := by
  obtain ⟨p, hp, rfl⟩ := hasD_iff.1 hd
  exact h.may p hp
theorem DI.keys_pos (h : DI l) (o : Int) : ∀ k ∈ keysO l o, ((1 : Nat) : Int) ≤ k := fun k hk => (h.has_may (mem_keysO.1 hk)).2.2.1
/-- How many of an origin stand without a gap. -/
def vecO (l : List (DotD × α)) (o : Int) : Nat := pfxK 1 (keysO l o) - 1
theorem DI.vec_has (h : DI l) {o : Int} {j : Int} (h1 : 1 ≤ j) (h2 : j ≤ (vecO l o : Int)) : hasD l (o, j) := by
  obtain ⟨q1, _, q3, _⟩ := pfxK_spec (h.keys o) (h.keys_pos o)
  unfold vecO at h2
  have := q3 j.toNat (by omega) (by omega)
  rw [Int.toNat_of_nonneg (by omega)] at this
  exact mem_keysO.1 this
theorem DI.vec_gap (h : DI l) (o : Int) : ¬ hasD l (o, (vecO l o : Int) + 1) := fun hd => by
  obtain ⟨q1, _, _, q4⟩ := pfxK_spec (h.keys o) (h.keys_pos o)
  refine q4 ?_
  have := mem_keysO.2 hd
  unfold vecO at this
  rwa [show (((pfxK 1 (keysO l o) - 1 : Nat) : Int) + 1) = ((pfxK 1 (keysO l o) : Nat) : Int) by omega] at this
theorem DI.vec_eq (h : DI l) {o : Int} {m : Nat} (h1 : ∀ j : Int, 1 ≤ j → j ≤ (m : Int) → hasD l (o, j)) (h2 : ¬ hasD l (o, (m : Int) + 1)) : vecO l o = m := by
  have := pfxK_eq (m := m + 1) (h.keys o) (h.keys_pos o) (by omega) (fun j a b => mem_keysO.2 (h1 j (by omega) (by omega))) (fun hm => h2 (by have := mem_keysO.1 hm; rwa [show ((m + 1 : Nat) : Int) = (m : Int) + 1 by omega] at this))
  unfold vecO; omega
theorem DI.vec_le (h : DI l) (o : Int) : vecO l o ≤ l.length := by
  obtain ⟨_, q2, _, _⟩ := pfxK_spec (h.keys o) (h.keys_pos o)
  have : (keysO l o).length ≤ l.length := by
    unfold keysO atO
    rw [List.length_map, List.length_map]; exact List.length_filter_le _ _
  unfold vecO; omega
def vecL (l : List (DotD × α)) : List Int := (List.range 7).map fun o : Nat => ((vecO l (o : Int) : Nat) : Int)
theorem vecL_len : (vecL l).length = 7 := by simp [vecL]
theorem vecL_at {o : Nat} (h : o < 7) : (vecL l)[o]? = some ((vecO l (o : Int) : Nat) : Int) := by simp [vecL, h]
/-! ### A dot is put in -/
def putD (l : List (DotD × α)) (d : DotD) (x : α) : List (DotD × α) := insW (fun p : DotD × α => lessD p.1 d) (d, x) l
def addS (l : List (DotD × α)) (d : DotD) (x : α) : List (DotD × α) × Int :=
  if ¬ mayD d then (l, 1) else if hasD l d then (l, 5) else if 65536 ≤ l.length then (l, 2) else (putD l d x, 0)
theorem DI.put (h : DI l) {d : DotD} {x : α} (hd : ¬ hasD l d) (hm : mayD d) (hl : l.length < 65536) : DI (putD l d x) := by
  have hne : ∀ q ∈ l, q.1 ≠ d := fun q hq e => hd (hasD_iff.2 ⟨q, hq, e⟩)
  refine ⟨insW_sorted h.inc (fun q _ hq => hq) (fun q hq hlt => ?_) (fun a _ b _ hab hb => ?_), by unfold putD; rw [insW_len]; omega, fun p hp => ?_⟩
  · have h1 := hne q hq
    have h2 : ¬ lessD q.1 d = true := by rw [hlt]; simp
    rw [lessD_iff] at h2
    show lessD d q.1 = true
    rw [lessD_iff]
    have : ¬ (q.1.1 = d.1 ∧ q.1.2 = d.2) := fun e => h1 (Prod.ext e.1 e.2)
    omega
  · rw [lessD_iff] at hab hb ⊢; omega
  · rcases mem_insW.1 hp with rfl | hp
    · exact hm
    · exact h.may p hp
theorem putD_has {d j : DotD} {x : α} : hasD (putD l d x) j ↔ j = d ∨ hasD l j := by
  simp only [hasD_iff, putD, mem_insW]
  constructor
  · rintro ⟨p, rfl | hp, rfl⟩
    · exact .inl rfl
    · exact .inr ⟨p, hp, rfl⟩
  · rintro (rfl | ⟨p, hp, rfl⟩)
    · exact ⟨_, .inl rfl, rfl⟩
    · exact ⟨p, .inr hp, rfl⟩
theorem putD_len {d : DotD} {x : α} : (putD l d x).length = l.length + 1 := insW_len _ _ _
theorem putD_get {d j : DotD} {x : α} (h : DI l) (hd : ¬ hasD l d) : getM (putD l d x) j = if d = j then some x else getM l j := by
  have hn : getM l d = none := by unfold hasD at hd; cases hg : getM l d with | none => rfl | some _ => rw [hg] at hd; simp at hd
  have hp : (putD l d x).Perm ((d, x) :: l) := insW_perm _ _ _
  have hnd : ND ((d, x) :: l) := List.pairwise_cons.2 ⟨fun q hq => fun e => getM_none.1 hn q hq e.symm, h.nd⟩
  rw [getM_perm hp (nd_perm hp.symm hnd), getM_cons]
theorem putD_other {d : DotD} {x : α} {o : Int} (h : d.1 ≠ o) : atO (putD l d x) o = atO l o := by
  unfold putD insW
  rw [atO_append, atO_cons, if_neg (by exact h), ← atO_append, List.take_append_drop]
theorem putD_own {d : DotD} {x : α} (h : ¬ hasD l d) : ((d.2, x) :: delM (atO l d.1) d.2).Perm (atO (putD l d x) d.1) := by
  have hn : getM (atO l d.1) d.2 = none := by
    rw [getM_atO]
    unfold hasD at h
    cases hg : getM l (d.1, d.2) with
    | none => rfl
    | some _ => rw [show d = (d.1, d.2) from rfl, hg] at h; simp at h
  rw [del_none hn]
  unfold putD insW
  rw [atO_append, atO_cons, if_pos rfl]
  refine List.Perm.trans ?_ List.perm_middle.symm
  rw [← atO_append, List.take_append_drop]
theorem DI.add (h : DI l) (d : DotD) (x : α) : DI (addS l d x).1 := by
  unfold addS
  split
  · exact h
  · split
    · exact h
    · split
      · exact h
      · rename_i h1 h2 h3
        exact h.put h2 (Classical.not_not.1 h1) (by omega)
theorem vec_put {d : DotD} {x : α} (h : DI l) (h2 : DI (putD l d x)) (o : Int) : vecO l o ≤ vecO (putD l d x) o := by
  refine Nat.le_of_not_lt fun hlt => h2.vec_gap o (putD_has.2 (.inr (h.vec_has (by omega) (by omega))))
theorem vec_put_other {d : DotD} {x : α} {o : Int} (h : d.1 ≠ o) : vecO (putD l d x) o = vecO l o := by
  unfold vecO keysO; rw [putD_other h]
end
/-! ### Vectors -/
def ofV (v : List Int) (o : Int) : Int := if o < 0 then 0 else (v[o.toNat]?).getD 0
def hasV (v : List Int) (d : DotD) : Prop := 0 < d.2 ∧ d.2 ≤ ofV v d.1
instance (v : List Int) (d : DotD) : Decidable (hasV v d) := by unfold hasV; exact inferInstance
def plainV : List Int → List Int
  | [] => []
  | x :: r => if plainV r = [] ∧ x = 0 then [] else x :: plainV r
theorem plain_zero : ∀ {v : List Int}, (∀ x ∈ v, x = 0) → plainV v = []
  | [], _ => rfl
  | x :: r, h => by
    unfold plainV
    rw [if_pos ⟨plain_zero fun y hy => h y (List.mem_cons_of_mem _ hy), h x List.mem_cons_self⟩]
theorem plain_take : ∀ {v : List Int} {e : Nat}, e ≤ v.length → (∀ x ∈ v.drop e, x = 0) → (e = 0 ∨ ∃ x, v[e - 1]? = some x ∧ x ≠ 0) → plainV v = v.take e
  | v, 0, _, h, _ => by rw [List.take_zero]; exact plain_zero (by simpa using h)
  | [], e + 1, he, _, _ => by simp at he
  | x :: r, e + 1, he, h, hl => by
    have hr : plainV r = r.take e := by
      refine plain_take (by simpa using he) (by simpa using h) ?_
      rcases hl with h0 | ⟨y, hy, hne⟩
      · omega
      · cases e with
        | zero => exact .inl rfl
        | succ e => exact .inr ⟨y, by simpa using hy, hne⟩
    rw [List.take_succ_cons]
    unfold plainV
    rw [hr]
    split
    · rename_i hc
      exfalso
      rcases hl with h0 | ⟨y, hy, hne⟩
      · omega
      · cases e with
        | zero => simp at hy; omega
        | succ e =>
          have h1 : e < r.length := by rw [List.length_cons] at he; omega
          have h2 : (r.take (e + 1)).length = 0 := by rw [hc.1]; rfl
          rw [List.length_take] at h2; omega
    · rfl
theorem plain_at : ∀ (v : List Int) (i : Nat), ((plainV v)[i]?).getD 0 = (v[i]?).getD 0
  | [], i => rfl
  | x :: r, i => by
    unfold plainV
    split
    · rename_i hc
      cases i with
      | zero => simp [hc.2]
      | succ i => have := plain_at r i; rw [hc.1] at this; simpa using this
    · cases i with
      | zero => rfl
      | succ i => simpa using plain_at r i
theorem ofV_plain (v : List Int) (o : Int) : ofV (plainV v) o = ofV v o := by
  unfold ofV; rw [plain_at]
theorem hasV_plain (v : List Int) (d : DotD) : hasV (plainV v) d ↔ hasV v d := by unfold hasV; rw [ofV_plain]
theorem ofV_vecL {α : Type} {l : List (DotD × α)} {o : Nat} (h : o < 7) : ofV (vecL l) (o : Int) = ((vecO l (o : Int) : Nat) : Int) := by
  unfold ofV
  rw [if_neg (by omega), Int.toNat_natCast, vecL_at h]; rfl
end Go.SL
