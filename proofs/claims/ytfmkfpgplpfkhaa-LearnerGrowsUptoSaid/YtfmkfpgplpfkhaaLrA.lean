/- Learner: what was chosen, told plainly. -/
import Derived.Test.YtfmkfpgplpfkhaaSlU
import Derived.Test.YtfmkfpgplpfkhaaSameA
set_option linter.unusedVariables false
set_option linter.unusedSimpArgs false
namespace Go.SL
open Go
abbrev SlotD := Int × EntryD
def hasK (l : List SlotD) (k : Int) : Prop := (getM l k).isSome = true
def IncK (l : List SlotD) : Prop := l.Pairwise fun p q => p.1 < q.1
theorem hasK_iff {l : List SlotD} {k : Int} : hasK l k ↔ ∃ e, (k, e) ∈ l := by
  unfold hasK
  constructor
  · intro h
    obtain ⟨e, he⟩ := Option.isSome_iff_exists.1 h
    exact ⟨e, getM_mem he⟩
  · rintro ⟨e, he⟩
    cases h : getM l k with
    | some _ => rfl
    | none => exact absurd rfl (getM_none.1 h _ he)
theorem hasK_key {l : List SlotD} {k : Int} : hasK l k ↔ ∃ p ∈ l, p.1 = k := by
  rw [hasK_iff]
  constructor
  · rintro ⟨e, he⟩; exact ⟨_, he, rfl⟩
  · rintro ⟨⟨a, e⟩, he, rfl⟩; exact ⟨e, he⟩
def pfxF : Nat → List SlotD → Nat
  | n, [] => n
  | n, p :: r => if p.1 = (n : Int) then pfxF (n + 1) r else n
abbrev pfx (l : List SlotD) : Nat := pfxF 0 l
theorem pfxF_spec : ∀ {l : List SlotD} {n : Nat}, IncK l → (∀ p ∈ l, (n : Int) ≤ p.1) → n ≤ pfxF n l ∧ pfxF n l ≤ n + l.length ∧ (∀ i, i < pfxF n l - n → ∃ e, l[i]? = some (((n + i : Nat) : Int), e)) ∧ (∀ p ∈ l.drop (pfxF n l - n), ((pfxF n l : Nat) : Int) < p.1) ∧ (∀ p ∈ l.take (pfxF n l - n), p.1 < ((pfxF n l : Nat) : Int))
  | [], n, _, _ => by simp [pfxF]
  | p :: r, n, hi, hn => by
    have hp := hn p List.mem_cons_self
    obtain ⟨hi1, hi2⟩ := List.pairwise_cons.1 hi
    by_cases e : p.1 = (n : Int)
    · have hr : ∀ q ∈ r, ((n + 1 : Nat) : Int) ≤ q.1 := fun q hq => by have := hi1 q hq; omega
      obtain ⟨h1, h2, h3, h4, h5⟩ := pfxF_spec hi2 hr
      simp only [pfxF, if_pos e]
      have ed : pfxF (n + 1) r - n = (pfxF (n + 1) r - (n + 1)) + 1 := by omega
      refine ⟨by omega, by simp; omega, fun i hlt => ?_, ?_, ?_⟩
      · cases i with
        | zero => exact ⟨p.2, by simp; rw [← e]⟩
        | succ i => 
          obtain ⟨x, hx⟩ := h3 i (by omega)
          exact ⟨x, by rw [show n + (i + 1) = n + 1 + i by omega]; simpa using hx⟩
      · rw [ed]; simpa using h4
      · rw [ed]
        intro q hq
        simp at hq
        rcases hq with rfl | hq
        · rw [e]; omega
        · exact h5 q hq
    · simp only [pfxF, if_neg e]
      refine ⟨Nat.le_refl _, by omega, fun i hlt => by omega, ?_, ?_⟩
      · simp only [Nat.sub_self, List.drop_zero]
        intro q hq
        rcases List.mem_cons.1 hq with rfl | hq
        · omega
        · have := hi1 q hq; omega
      · simp
structure LI (l : List SlotD) : Prop where
  inc : IncK l
  len : l.length ≤ 65536
  keys : ∀ p ∈ l, 0 ≤ p.1 ∧ p.1 ≤ 2147483647
  ents : ∀ p ∈ l, rEntry p.2 ∧ orderOk' p.2.order
section
variable {l : List SlotD}
theorem LI.spec (h : LI l) : pfx l ≤ l.length ∧ (∀ i, i < pfx l → ∃ e, l[i]? = some ((i : Int), e)) ∧ (∀ p ∈ l.drop (pfx l), ((pfx l : Nat) : Int) < p.1) ∧ (∀ p ∈ l.take (pfx l), p.1 < ((pfx l : Nat) : Int)) := by
  obtain ⟨h1, h2, h3, h4, h5⟩ := pfxF_spec (n := 0) h.inc (fun p hp => (h.keys p hp).1)
  simp only [Nat.sub_zero, Nat.zero_add] at h2 h3 h4 h5
  exact ⟨h2, h3, h4, h5⟩
theorem LI.below (h : LI l) {k : Nat} (hk : k < pfx l) : hasK l (k : Int) := by
  obtain ⟨e, he⟩ := h.spec.2.1 k hk
  exact hasK_iff.2 ⟨e, List.mem_of_getElem? he⟩
theorem LI.gap (h : LI l) : ¬ hasK l ((pfx l : Nat) : Int) := fun hk => by
  obtain ⟨p, hp, e⟩ := hasK_key.1 hk
  rw [← List.take_append_drop (pfx l) l] at hp
  rcases List.mem_append.1 hp with hp | hp
  · have := h.spec.2.2.2 p hp; omega
  · have := h.spec.2.2.1 p hp; omega
theorem LI.pfx_eq (h : LI l) {n : Nat} (h1 : ∀ k, k < n → hasK l ((k : Nat) : Int)) (h2 : ¬ hasK l ((n : Nat) : Int)) : pfx l = n := by
  rcases Nat.lt_trichotomy (pfx l) n with hlt | e | hgt
  · exact absurd (h1 _ hlt) h.gap
  · exact e
  · exact absurd (h.below hgt) h2
def putS (l : List SlotD) (k : Int) (e : EntryD) : List SlotD := insW (fun p : SlotD => decide (p.1 < k)) (k, e) l
def chooseS (l : List SlotD) (slot : Int) (e : EntryD) : List SlotD × Int :=
  if ¬ (rEntry e ∧ 0 ≤ slot ∧ slot ≤ 2147483647) then (l, 1) else match getM l slot with
  | some x => if x = e then (l, 5) else (l, 180)
  | none => if 65536 ≤ l.length then (l, 2) else (putS l slot e, 0)
theorem LI.put (h : LI l) {k : Int} {e : EntryD} (hk : getM l k = none) (h0 : 0 ≤ k ∧ k ≤ 2147483647) (he : rEntry e ∧ orderOk' e.order) (hl : l.length < 65536) : LI (putS l k e) := by
  have hne := getM_none.1 hk
  refine ⟨insW_sorted h.inc (fun q _ hq => by simpa using hq) (fun q hq hlt => ?_) (fun a _ b _ hab hb => by simp at hb ⊢; omega), by unfold putS; rw [insW_len]; omega, fun p hp => ?_, fun p hp => ?_⟩
  · have := hne q hq
    simp at hlt
    show k < q.1
    omega
  · rcases mem_insW.1 hp with rfl | hp
    · exact h0
    · exact h.keys p hp
  · rcases mem_insW.1 hp with rfl | hp
    · exact he
    · exact h.ents p hp
theorem LI.choose (h : LI l) (slot : Int) {e : EntryD} (he : orderOk' e.order) : LI (chooseS l slot e).1 := by
  unfold chooseS
  split
  · exact h
  · rename_i hc
    have hc := Classical.not_not.1 hc
    split
    · split <;> exact h
    · rename_i hg
      split
      · exact h
      · exact h.put hg hc.2 ⟨hc.1, he⟩ (by omega)
theorem LI.nil : LI [] := ⟨List.Pairwise.nil, by simp, by simp, by simp⟩
theorem putS_perm {l : List SlotD} {k : Int} {e : EntryD} (hk : getM l k = none) : ((k, e) :: delM l k).Perm (putS l k e) := by
  rw [del_none hk]; exact (insW_perm _ _ _).symm
theorem putS_has {k j : Int} {e : EntryD} : hasK (putS l k e) j ↔ j = k ∨ hasK l j := by
  simp only [hasK_key, putS, mem_insW]
  constructor
  · rintro ⟨p, rfl | hp, rfl⟩
    · exact .inl rfl
    · exact .inr ⟨p, hp, rfl⟩
  · rintro (rfl | ⟨p, hp, rfl⟩)
    · exact ⟨_, .inl rfl, rfl⟩
    · exact ⟨p, .inr hp, rfl⟩
abbrev keysN (l : List SlotD) : List Int := l.map (·.1)
def extraN (l : List SlotD) : List Int := keysN (l.drop (pfx l))
theorem LI.extra (h : LI l) : (keysN l).filter (fun k => decide (((pfx l : Nat) : Int) ≤ k)) = extraN l := by
  unfold extraN
  have e : keysN l = keysN (l.take (pfx l)) ++ keysN (l.drop (pfx l)) := by rw [← List.map_append, List.take_append_drop]
  rw [e, List.filter_append, List.filter_eq_nil_iff.2, List.filter_eq_self.2, List.nil_append]
  · intro k hk
    obtain ⟨p, hp, rfl⟩ := List.mem_map.1 hk
    have := h.spec.2.2.1 p hp
    simp; omega
  · intro k hk
    obtain ⟨p, hp, rfl⟩ := List.mem_map.1 hk
    have := h.spec.2.2.2 p hp
    simp; omega
end
/-! ### The gaps -/
def ints (a : Int) (n : Nat) : List Int := (List.range n).map fun i : Nat => a + (i : Int)
theorem ints_succ (a : Int) (n : Nat) : ints a (n + 1) = ints a n ++ [a + (n : Int)] := by simp [ints, List.range_succ]
theorem ints_len (a : Int) (n : Nat) : (ints a n).length = n := by simp [ints]
/-- How many of a gap are told: up to k, while there is room. -/
def gapN (cap nx k : Int) (have_ : Nat) : Nat := min (k - nx).toNat (cap - (have_ : Int)).toNat
def missF (cap : Int) : List Int → Int → List Int → List Int
  | [], nx, out => out
  | k :: r, nx, out => missF cap r (k + 1) (out ++ ints nx (gapN cap nx k out.length))
def missingS (l : List SlotD) (most : Int) : List Int := missF (min most 4096) (extraN l) ((pfx l : Nat) : Int) []
theorem missF_len : ∀ {ks : List Int} {cap nx : Int} {out : List Int}, cap ≤ 4096 → out.length ≤ 4096 → (missF cap ks nx out).length ≤ 4096
  | [], _, _, _, _, h => h
  | k :: r, cap, nx, out, hc, h => by
    unfold missF
    refine missF_len hc ?_
    rw [List.length_append, ints_len]
    unfold gapN
    omega
def nextF (ks : List Int) (nx : Int) : Int := match ks.getLast? with | some x => x + 1 | none => nx
theorem nextF_cons (x : Int) (r : List Int) (nx : Int) : nextF (x :: r) nx = nextF r (x + 1) := by
  unfold nextF
  rw [List.getLast?_cons]
  cases r.getLast? <;> rfl
theorem missF_snoc' : ∀ (ks : List Int) (k cap nx : Int) (out : List Int), missF cap (ks ++ [k]) nx out = (missF cap ks nx out) ++ ints (nextF ks nx) (gapN cap (nextF ks nx) k (missF cap ks nx out).length)
  | [], k, cap, nx, out => rfl
  | x :: r, k, cap, nx, out => by
    rw [List.cons_append, nextF_cons]
    unfold missF
    exact missF_snoc' r k cap (x + 1) _
theorem nextF_snoc (ks : List Int) (k nx : Int) : nextF (ks ++ [k]) nx = k + 1 := by simp [nextF]
/-- The prefix' slots leave no gap. -/
theorem missF_skip : ∀ {ks : List Int} {r : List Int} {cap : Int} {n : Nat} {out : List Int}, (∀ i x, ks[i]? = some x → x = ((n + i : Nat) : Int)) → missF cap (ks ++ r) (n : Int) out = missF cap r ((n + ks.length : Nat) : Int) out
  | [], r, cap, n, out, _ => rfl
  | x :: ks, r, cap, n, out, h => by
    have hx := h 0 x rfl
    simp at hx
    rw [List.cons_append]
    have e1 : missF cap (x :: (ks ++ r)) (n : Int) out = missF cap (ks ++ r) (x + 1) (out ++ ints (n : Int) (gapN cap (n : Int) x out.length)) := rfl
    rw [e1]
    have e : gapN cap (n : Int) x out.length = 0 := by unfold gapN; omega
    rw [e, show ints (n : Int) 0 = [] from rfl, List.append_nil]
    have := missF_skip (ks := ks) (r := r) (cap := cap) (n := n + 1) (out := out) (fun i y hy => by have := h (i + 1) y (by simpa using hy); omega)
    rw [hx, show ((n : Int) + 1) = ((n + 1 : Nat) : Int) by omega, this, List.length_cons, show n + (ks.length + 1) = n + 1 + ks.length by omega]
theorem LI.miss_all {l : List SlotD} (h : LI l) (cap : Int) : missF cap (keysN l) 0 [] = missF cap (extraN l) ((pfx l : Nat) : Int) [] := by
  have e0 : keysN l = keysN (l.take (pfx l)) ++ extraN l := by unfold extraN; rw [← List.map_append, List.take_append_drop]
  rw [e0]
  have e := missF_skip (ks := keysN (l.take (pfx l))) (r := extraN l) (cap := cap) (n := 0) (out := []) (fun i x hx => by
    rw [List.getElem?_map] at hx
    obtain ⟨p, hp, rfl⟩ := Option.map_eq_some_iff.1 hx
    have hi : i < pfx l := by
      have := (List.getElem?_eq_some_iff.1 hp).1
      rw [List.length_take] at this; omega
    obtain ⟨q, hq⟩ := h.spec.2.1 i hi
    rw [List.getElem?_take_of_lt hi, hq] at hp
    cases hp
    simp)
  rw [show ((0 : Nat) : Int) = 0 from rfl] at e
  have hl : (keysN (l.take (pfx l))).length = pfx l := by
    rw [List.length_map, List.length_take]; have := h.spec.1; omega
  rw [hl, Nat.zero_add] at e
  exact e
end Go.SL
