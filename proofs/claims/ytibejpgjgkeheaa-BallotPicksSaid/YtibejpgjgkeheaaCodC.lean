/- Codec: what reading a number from bytes means, in plain Lean. -/
import Derived.Test.YtibejpgjgkeheaaCodB
set_option linter.unusedVariables false
set_option linter.unusedSimpArgs false
namespace Go.SL
open Go Go.Proofs

def val : List Int → Nat
  | [] => 0
  | d :: ds => d.toNat % 128 + 128 * val ds
theorem val_append (c : Int) : ∀ ds : List Int, val (ds ++ [c]) = val ds + (c.toNat % 128) * 128 ^ ds.length
  | [] => by simp [val]
  | d :: ds => by
    simp only [List.cons_append, val, val_append c ds, List.length_cons, Nat.pow_succ]
    rw [Nat.mul_add, Nat.add_assoc, Nat.mul_comm (128 ^ ds.length) 128, Nat.mul_left_comm]
theorem val_lt : ∀ ds : List Int, val ds < 128 ^ ds.length
  | [] => by simp [val]
  | d :: ds => by
    have := val_lt ds
    simp only [val, List.length_cons, Nat.pow_succ]
    omega
def High (ds : List Int) : Prop := ∀ d ∈ ds, 128 ≤ d ∧ d ≤ 255
theorem grp_val : ∀ (ds : List Int) (c : Int), High ds → 0 ≤ c → c < 128 → (c ≠ 0 ∨ ds = []) → grp (val (ds ++ [c])) = ds ++ [c]
  | [], c, _, h0, h1, _ => by
    simp only [List.nil_append, val]
    rw [grp_small (by omega)]
    congr 1; omega
  | d :: ds, c, hd, h0, h1, hc => by
    have hc' : c ≠ 0 := by rcases hc with h | h
                           · exact h
                           · cases h
    have ih := grp_val ds c (fun x hx => hd x (by simp [hx])) h0 h1 (.inl hc')
    have hpos : 1 ≤ val (ds ++ [c]) := by
      rw [val_append]
      have h2 : 1 ≤ c.toNat % 128 := by omega
      have h3 : 1 ≤ 128 ^ ds.length := Nat.pos_of_ne_zero (by simp)
      have := Nat.mul_le_mul h2 h3
      omega
    have hd1 := hd d (by simp)
    simp only [List.cons_append, val]
    rw [grp_big (by omega)]
    have e1 : (d.toNat % 128 + 128 * val (ds ++ [c])) / 128 = val (ds ++ [c]) := by omega
    rw [e1, ih]
    congr 1
    omega
theorem grp_form : ∀ (n x : Nat), x ≤ n → ∃ ds c, grp x = ds ++ [c] ∧ High ds ∧ 0 ≤ c ∧ c < 128 ∧ (c ≠ 0 ∨ ds = []) ∧ x = val (ds ++ [c])
  | n, x, hn => by
    by_cases hx : x < 128
    · exact ⟨[], x, by rw [grp_small hx]; rfl, fun d hd => (by cases hd), by omega, by omega, .inr rfl, by simp only [List.nil_append, val]; omega⟩
    · match n, hn with
      | 0, hn => omega
      | n + 1, hn =>
      obtain ⟨ds, c, h1, h2, h3, h4, h5, h6⟩ := grp_form n (x / 128) (by omega)
      refine ⟨((x % 128 : Nat) + 128 : Int) :: ds, c, by rw [grp_big hx, h1]; rfl, ?_, h3, h4, ?_, ?_⟩
      · intro d hd
        rcases List.mem_cons.1 hd with rfl | hd
        · omega
        · exact h2 d hd
      · left
        rcases h5 with h | h
        · exact h
        · subst h
          simp only [List.nil_append, val] at h6
          omega
      · simp only [List.cons_append, val, ← h6]
        omega
theorem val_grp (x : Nat) : val (grp x) = x := by
  obtain ⟨ds, c, h1, _, _, _, _, h6⟩ := grp_form x x (Nat.le_refl _)
  rw [h1, ← h6]
theorem grp_inj {x y : Nat} (h : grp x = grp y) : x = y := by rw [← val_grp x, h, val_grp]

/-- What reading a number from bytes comes to. -/
def RdU (bs : List Int) (x n e : Nat) : Prop :=
  (e = 0 ∧ x < 18446744073709551616 ∧ bs.take n = grp x ∧ n = (grp x).length ∧ n ≤ bs.length) ∨ (e = 10 ∧ x = 0 ∧ n = 0 ∧ ∀ y, y < 18446744073709551616 → ¬ grp y <+: bs)
/-- Bytes that all go on: a number's bytes are more. -/
theorem grp_more {bs : List Int} {y i : Nat} (hp : grp y <+: bs) (hi : High (bs.take i)) : i < (grp y).length := by
  obtain ⟨ds, c, h1, h2, h3, h4, h5, h6⟩ := grp_form y y (Nat.le_refl _)
  apply Classical.byContradiction
  intro hlt
  obtain ⟨t, ht⟩ := hp
  have hm : c ∈ bs.take i := by
    rw [← ht, List.take_append, List.take_of_length_le (by omega), h1]
    simp
  have := hi c hm
  omega
theorem grp_at {bs : List Int} {y i : Nat} {c : Int} (hp : grp y <+: bs) (hi : High (bs.take i)) (hc : bs[i]? = some c) (h1 : c < 128) : ∃ ds, grp y = ds ++ [c] ∧ ds.length = i ∧ 0 ≤ c ∧ (c ≠ 0 ∨ ds = []) ∧ y = val (ds ++ [c]) := by
  have hl := grp_more hp hi
  obtain ⟨ds, c', g1, g2, g3, g4, g5, g6⟩ := grp_form y y (Nat.le_refl _)
  obtain ⟨t, ht⟩ := hp
  have hlen : (grp y).length = ds.length + 1 := by rw [g1]; simp
  have hci : (ds ++ [c'])[i]? = some c := by
    have e : (grp y ++ t)[i]? = (grp y)[i]? := List.getElem?_append_left hl
    rw [ht, hc] at e
    rw [← g1]
    exact e.symm
  have : i = ds.length := by
    apply Classical.byContradiction
    intro hne
    rw [List.getElem?_append_left (by omega)] at hci
    have := g2 c (List.mem_of_getElem? hci)
    omega
  subst this
  simp at hci
  subst hci
  exact ⟨ds, g1, rfl, g3, g5, g6⟩
theorem rdU_done {bs : List Int} {i acc : Nat} {c : Int} (hi : High (bs.take i)) (hc : bs[i]? = some c) (h0 : 0 ≤ c) (h1 : c < 128) (h2 : c ≠ 0 ∨ i = 0) (ha : acc = val (bs.take (i + 1))) (hlt : acc < 18446744073709551616) : RdU bs acc (i + 1) 0 := by
  have hil : i < bs.length := (List.getElem?_eq_some_iff.1 hc).1
  have e : bs.take (i + 1) = bs.take i ++ [c] := by rw [List.take_add_one, hc]; rfl
  have g := grp_val (bs.take i) c hi h0 h1 (h2.imp id fun h => by subst h; simp)
  rw [← e, ← ha] at g
  exact .inl ⟨rfl, hlt, g.symm, by rw [g]; simp; omega, by omega⟩
theorem rdU_zero {bs : List Int} {i : Nat} (hi : High (bs.take i)) (hc : bs[i]? = some 0) (h : 0 < i) : RdU bs 0 0 10 :=
  .inr ⟨rfl, rfl, rfl, fun y _ hp => by
    obtain ⟨ds, _, h2, _, h4, _⟩ := grp_at hp hi hc (by decide)
    rcases h4 with h4 | h4
    · exact h4 rfl
    · subst h4; simp at h2; omega⟩
theorem rdU_big {bs : List Int} {c : Int} (hi : High (bs.take 9)) (hc : bs[9]? = some c) (h : 1 < c) (h255 : c ≤ 255) : RdU bs 0 0 10 :=
  .inr ⟨rfl, rfl, rfl, fun y hy hp => by
    by_cases h1 : c < 128
    · obtain ⟨ds, _, h2, _, _, h5⟩ := grp_at hp hi hc h1
      rw [val_append, h2] at h5
      have : 2 ≤ c.toNat % 128 := by omega
      have := Nat.mul_le_mul_right (128 ^ 9) this
      omega
    · have h9 : High (bs.take 10) := by
        intro d hd
        rw [List.take_add_one, hc] at hd
        rcases List.mem_append.1 hd with hd | hd
        · exact hi d hd
        · simp at hd; omega
      have := grp_more hp h9
      have := grp_ten hy
      omega⟩
theorem rdU_end {bs : List Int} {i : Nat} (hi : High (bs.take i)) (h : bs.length ≤ i ∨ 10 ≤ i) : RdU bs 0 0 10 :=
  .inr ⟨rfl, rfl, rfl, fun y hy hp => by
    have h1 := grp_more hp hi
    have h2 := hp.length_le
    have h3 := grp_ten hy
    omega⟩
theorem rdU_unique {bs : List Int} {x n e x' n' e' : Nat} (h : RdU bs x n e) (k : RdU bs x' n' e') : x = x' ∧ n = n' ∧ e = e' := by
  have pre : ∀ {x n}, bs.take n = grp x → grp x <+: bs := fun h => h ▸ List.take_prefix _ _
  rcases h with ⟨h1, h2, h3, h4, h5⟩ | ⟨h1, h2, h3, h4⟩ <;> rcases k with ⟨k1, k2, k3, k4, k5⟩ | ⟨k1, k2, k3, k4⟩
  · subst h1; subst k1
    have : grp x = grp x' := by
      obtain ⟨ds, c, a1, a2, a3, a4, a5, a6⟩ := grp_form x x (Nat.le_refl _)
      have hx := pre h3
      obtain ⟨t, ht⟩ := hx
      have hH : High (bs.take ds.length) := by rw [← ht, a1]; simp [a2]
      have hc : bs[ds.length]? = some c := by rw [← ht, a1]; simp
      obtain ⟨ds', b1, b2, _⟩ := grp_at (pre k3) hH hc a4
      have e1 : n = n' := by rw [h4, k4, a1, b1]; simp [b2]
      rw [← h3, ← k3, e1]
    have e := grp_inj this
    subst e
    exact ⟨rfl, by omega, rfl⟩
  · exact absurd (pre h3) (k4 _ h2)
  · exact absurd (pre k3) (h4 _ k2)
  · subst h1; subst h2; subst h3; subst k1; subst k2; subst k3; exact ⟨rfl, rfl, rfl⟩
theorem rdU_of_grp {x : Nat} (hx : x < 18446744073709551616) (t : List Int) : RdU (grp x ++ t) x (grp x).length 0 := .inl ⟨rfl, hx, by simp, rfl, by simp⟩

/-! ### Bits -/
theorem u64_or (a b : Nat) (ha : a < 18446744073709551616) (hb : b < 18446744073709551616) : bitsOf .or .u64 (a : Int) (b : Int) = ((a ||| b : Nat) : Int) := by
  have hor : a ||| b < 2 ^ 64 := Nat.or_lt_two_pow ha hb
  simp only [bitsOf]
  have e : (BitVec.ofInt IntKind.u64.bits (a : Int) ||| BitVec.ofInt IntKind.u64.bits (b : Int)).toNat = a ||| b := by
    show (BitVec.ofInt 64 (a : Int) ||| BitVec.ofInt 64 (b : Int)).toNat = a ||| b
    simp only [BitVec.ofInt_natCast, BitVec.toNat_or, BitVec.toNat_ofNat]
    rw [Nat.mod_eq_of_lt ha, Nat.mod_eq_of_lt hb]
  rw [e]
  exact u64_small hor
theorem or_add {a m i : Nat} (h : a < 128 ^ i) : a ||| m * 128 ^ i = a + m * 128 ^ i := by
  have e : 128 ^ i = 2 ^ (7 * i) := by rw [Nat.pow_mul]
  rw [e] at h ⊢
  have := Nat.shiftLeft_add_eq_or_of_lt h m
  rw [Nat.shiftLeft_eq] at this
  rw [Nat.or_comm, ← this, Nat.add_comm]
theorem u8_and127 : ∀ m : Fin 256, bitsOf .and .u8 (m.val : Int) 127 = ((m.val % 128 : Nat) : Int) := by decide +kernel
theorem u8_and {c : Int} (h : 0 ≤ c ∧ c ≤ 255) : bitsOf .and .u8 c 127 = ((c.toNat % 128 : Nat) : Int) := by
  have := u8_and127 ⟨c.toNat, by omega⟩
  simp only at this
  rwa [Int.toNat_of_nonneg h.1] at this
/-- A digit is put at its place. -/
theorem put_digit {bs : List Int} {i : Nat} {c : Int} (hc : bs[i]? = some c) (h0 : 0 ≤ c) (hi : i ≤ 9) (h9 : i = 9 → c ≤ 1) :
    bitsOf .or .u64 ((val (bs.take i) : Nat) : Int) (IntKind.u64.wrap (((c.toNat % 128 : Nat) : Int) * 2 ^ min ((7 * i : Nat) : Int).toNat IntKind.u64.bits)) = ((val (bs.take (i + 1)) : Nat) : Int) ∧ val (bs.take (i + 1)) < 18446744073709551616 := by
  have hil : i < bs.length := (List.getElem?_eq_some_iff.1 hc).1
  have e : bs.take (i + 1) = bs.take i ++ [c] := by rw [List.take_add_one, hc]; rfl
  have hl : (bs.take i).length = i := by simp; omega
  have hv := val_lt (bs.take i)
  rw [hl] at hv
  have e2 : val (bs.take (i + 1)) = val (bs.take i) + (c.toNat % 128) * 128 ^ i := by rw [e, val_append, hl]
  have hlt : val (bs.take (i + 1)) < 18446744073709551616 := by
    by_cases h : i = 9
    · have := h9 h
      subst h
      have : c.toNat % 128 ≤ 1 := by omega
      have := Nat.mul_le_mul_right (128 ^ 9) this
      omega
    · have := val_lt (bs.take (i + 1))
      have hl2 : (bs.take (i + 1)).length = i + 1 := by simp; omega
      rw [hl2] at this
      have h2 : 128 ^ (i + 1) ≤ 128 ^ 9 := Nat.pow_le_pow_right (by decide) (by omega)
      omega
  refine ⟨?_, hlt⟩
  have hm : min ((7 * i : Nat) : Int).toNat IntKind.u64.bits = 7 * i := by
    show min ((7 * i : Nat) : Int).toNat 64 = 7 * i
    omega
  have hp : (2 : Int) ^ (7 * i) = ((128 ^ i : Nat) : Int) := by rw [show (128 : Nat) = 2 ^ 7 from rfl, ← Nat.pow_mul]; simp
  rw [hm, hp, ← Int.natCast_mul]
  have hb : (c.toNat % 128) * 128 ^ i < 18446744073709551616 := by omega
  rw [u64_small hb, u64_or _ _ (by omega) hb, or_add hv, e2]
end Go.SL
