/- Codec: what reading comes to, told plainly; the reader in memory. -/
import Derived.Test.YtiiejjdkhekhmaaPf
import Derived.Test.YtiiejjdkhekhmaaCodG
import Derived.Test.YtiiejjdkhekhmaaSlN
import Derived.Test.YtiiejjdkhekhmaaLawCodD
set_option linter.unusedVariables false
set_option linter.unusedSimpArgs false
namespace Go.SL
open Go Go.Proofs
structure RS where
  b : List Int
  n : Nat
  bad : Bool
/-- A part is read: what it tells of the bytes. -/
structure RdR {α : Type} (ok iv : α → Prop) (b : α → List Int) (s : RS) (x : α) (s' : RS) : Prop where
  snd : s'.bad = false → s.bad = false ∧ ok x ∧ s.b = b x ++ s'.b
  cmp : ∀ y r, s.bad = false → ok y → s.b = b y ++ r → s'.bad = false
  tot : s'.n + s'.b.length = s.n + s.b.length
  iv : iv x
section
variable {α β : Type} {ok iv : α → Prop} {b : α → List Int} {s s1 s2 : RS} {x : α}
theorem RdR.seq {ok2 iv2 : β → Prop} {b2 : β → List Int} {y : β} (h1 : RdR ok iv b s x s1) (hp : PF ok b) (h2 : RdR ok2 iv2 b2 s1 y s2) : RdR (fun p : α × β => ok p.1 ∧ ok2 p.2) (fun p => iv p.1 ∧ iv2 p.2) (fun p => b p.1 ++ b2 p.2) s (x, y) s2 := by
  refine ⟨fun h => ?_, fun y r hs hy hb => ?_, by rw [h2.tot, h1.tot], h1.iv, h2.iv⟩
  · obtain ⟨a1, a2, a3⟩ := h2.snd h
    obtain ⟨c1, c2, c3⟩ := h1.snd a1
    exact ⟨c1, ⟨c2, a2⟩, by rw [c3, a3, List.append_assoc]⟩
  · rw [List.append_assoc] at hb
    have g1 := h1.cmp _ _ hs hy.1 hb
    obtain ⟨c1, c2, c3⟩ := h1.snd g1
    obtain ⟨_, e⟩ := hp _ _ _ _ c2 hy.1 (c3.symm.trans hb)
    exact h2.cmp _ _ g1 hy.2 e
theorem RdR.map {ok2 iv2 : β → Prop} {b2 : β → List Int} (f : α → β) (g : β → α) (h : RdR ok iv b s x s1) (hg : g (f x) = x) (hok : ∀ y, ok2 y ↔ ok (g y)) (hb : ∀ y, b2 y = b (g y)) (hiv : iv x → iv2 (f x)) : RdR ok2 iv2 b2 s (f x) s1 := by
  refine ⟨fun k => ?_, fun y r hs hy he => h.cmp (g y) r hs ((hok y).1 hy) (by rw [he, hb]), h.tot, hiv h.iv⟩
  obtain ⟨a1, a2, a3⟩ := h.snd k
  exact ⟨a1, (hok _).2 (by rw [hg]; exact a2), by rw [hb, hg]; exact a3⟩
theorem RdR.bytes (h : RdR ok iv b s x s1) (hb : ∀ y, b y = b y) : RdR ok iv b s x s1 := h
end

/-! ### A number, a text are taken -/
def TakeU (s : RS) (x : Nat) (s' : RS) : Prop := (s.bad = false ∧ ∃ k, RdU s.b x k 0 ∧ s' = ⟨s.b.drop k, s.n + k, false⟩) ∨ (s' = ⟨s.b, s.n, true⟩ ∧ x = 0 ∧ (s.bad = true ∨ RdU s.b 0 0 10))
def TakeT (most : Int) (s : RS) (x : ByteArray) (s' : RS) : Prop := (s.bad = false ∧ ∃ k, RdT s.b most x k 0 ∧ s' = ⟨s.b.drop k, s.n + k, false⟩) ∨ (s' = ⟨s.b, s.n, true⟩ ∧ x = ⟨#[]⟩ ∧ (s.bad = true ∨ RdT s.b most ⟨#[]⟩ 0 10))
theorem rdU_split {bs : List Int} {x k : Nat} (h : RdU bs x k 0) : bs = grp x ++ bs.drop k ∧ k ≤ bs.length ∧ x < 18446744073709551616 := by
  rcases h with ⟨_, h2, h3, h4, h5⟩ | ⟨h, _⟩
  · exact ⟨by rw [← h3, List.take_append_drop], h5, h2⟩
  · cases h
theorem rdT_split {bs : List Int} {most : Int} {x : ByteArray} {k : Nat} (h : RdT bs most x k 0) : bs = txt x ++ bs.drop k ∧ k ≤ bs.length ∧ (x.size : Int) ≤ most := by
  rcases h with ⟨_, h2, h3, h4, h5⟩ | ⟨h, _⟩
  · exact ⟨by rw [← h3, List.take_append_drop], h5, h2⟩
  · cases h
/-- A number that is no more than a bound. -/
theorem numR {most : Int} (hm : 0 ≤ most ∧ most ≤ 4611686018427387904) {s s' : RS} {x : Nat} (h : TakeU s x s') :
    ((x : Int) ≤ most → RdR (rNum most) (rNum most) bNum s (x : Int) s') ∧ (most < (x : Int) → RdR (rNum most) (rNum most) bNum s 0 ⟨s'.b, s'.n, true⟩) := by
  rcases h with ⟨h0, k, h1, rfl⟩ | ⟨rfl, rfl, h1⟩
  · obtain ⟨e1, e2, e3⟩ := rdU_split h1
    have ht : s.n + k + (s.b.drop k).length = s.n + s.b.length := by rw [List.length_drop]; omega
    refine ⟨fun hx => ⟨fun _ => ⟨h0, by unfold rNum; omega, by unfold bNum; exact e1⟩, fun _ _ _ _ _ => rfl, ht, by unfold rNum; omega⟩, fun hx => ⟨(fun k => by cases k), fun y r _ hy hb => ?_, ht, by unfold rNum; omega⟩⟩
    unfold rNum at hy
    rw [e1] at hb
    obtain ⟨e4, _⟩ := pf_grp (y := y.toNat) e3 (by omega) hb
    omega
  · refine ⟨fun hx => ⟨(fun k => by cases k), fun y r hs hy hb => ?_, rfl, by unfold rNum; omega⟩, fun hx => by omega⟩
    rcases h1 with h1 | h1
    · rw [hs] at h1; cases h1
    · unfold rNum at hy
      rw [hb] at h1
      have := (rdU_unique h1 (rdU_of_grp (x := y.toNat) (by omega) r)).2.2
      cases this
def txtOf (most : Int) (s : ByteArray) : Prop := (s.size : Int) ≤ most
theorem txtR {s s' : RS} {x : ByteArray} (h : TakeT 32 s x s') : (isName x → RdR isName (fun x => x.size ≤ 32) txt s x s') ∧ (¬ isName x → RdR isName (fun x => x.size ≤ 32) txt s x ⟨s'.b, s'.n, true⟩) := by
  rcases h with ⟨h0, k, h1, rfl⟩ | ⟨rfl, rfl, h1⟩
  · obtain ⟨e1, e2, e3⟩ := rdT_split h1
    have ht : s.n + k + (s.b.drop k).length = s.n + s.b.length := by rw [List.length_drop]; omega
    refine ⟨fun hx => ⟨fun _ => ⟨h0, hx, e1⟩, fun _ _ _ _ _ => rfl, ht, by omega⟩, fun hx => ⟨(fun k => by cases k), fun y r _ hy hb => ?_, ht, by omega⟩⟩
    rw [e1] at hb
    have hy2 := hy.2.2
    obtain ⟨e4, _⟩ := pf_txt (by omega) (by omega) hb
    rw [e4] at hx; exact absurd hy hx
  · refine ⟨fun hx => absurd (by decide : (⟨#[]⟩ : ByteArray).size = 0) hx.2.1, fun hx => ⟨(fun k => by cases k), fun y r hs hy hb => ?_, rfl, by decide⟩⟩
    rcases h1 with h1 | h1
    · rw [hs] at h1; cases h1
    · rw [hb] at h1
      have hy2 := hy.2.2
      have := (rdT_unique (s' := y) (n' := (txt y).length) (e' := 0) (by decide) h1 (.inl ⟨rfl, by omega, by simp, rfl, by simp⟩)).2.2
      cases this

/-! ### The reader in memory -/
abbrev rdF (b : Nat) (s : RS) (p : Option Addr × Nat) : List HP := [cells b [.slice p.1 s.b.length p.2, .int .i64 (s.n : Int), .bool s.bad] 119, sl (intR .u8) p.1 p.2 s.b]
def rdr (b : Nat) (s : RS) : HP := exH (rdF b s)
def rdN (b : Nat) (n : Int) (bad : Bool) : HP := exH fun v0 : Value => [cells b [v0, .int .i64 n, .bool bad] 119]
section
variable {r : Option Nat} {n : Nat} {P : Program} {ops : Array Oper} {rest : List Oper} {K : St → Prop} {Q : Exit → St → Prop} {D : List Deferred} {E : Env} {L L' : List HP} {b : Nat} {s : RS} {ty : TypeId}
theorem T_rdr {c : Code} (h : ∀ A c', T r n P c ⟨D, E, cells b [.slice A s.b.length c', .int .i64 (s.n : Int), .bool s.bad] 119 :: sl (intR .u8) A c' s.b :: L⟩ Q) : T r n P c ⟨D, E, rdr b s :: L⟩ Q := T_exH (f := rdF b s) fun p => h p.1 p.2
theorem TL_rdr (h : ∀ A c', TL r n P ops rest ⟨D, E, cells b [.slice A s.b.length c', .int .i64 (s.n : Int), .bool s.bad] 119 :: sl (intR .u8) A c' s.b :: L⟩ K) : TL r n P ops rest ⟨D, E, rdr b s :: L⟩ K := TL_exH (f := rdF b s) fun p => h p.1 p.2
theorem rdr_close {A : Option Addr} {c : Nat} {L1 : List HP} (b : Nat) (s : RS) [h1 : FindC L b [.slice A s.b.length c, .int .i64 (s.n : Int), .bool s.bad] 119 L1] (hk : SlK L1 (intR .u8) A c s.b) : Gives L (rdr b s :: L1) := by
  refine Gives.trans (h1.g.trans (Gives.cons _ hk.lay)) ?_
  exact exH_close (f := rdF b s) (A, c)
instance findHP_rdN {v0 : Value} {m : Int} {bad : Bool} {L1 : List HP} [h : FindC L b [v0, .int .i64 m, .bool bad] 119 L1] : FindHP L (rdN b m bad) L1 := ⟨h.g.trans (exH_close (f := fun v0 : Value => [cells b [v0, .int .i64 m, .bool bad] 119]) v0)⟩
theorem Y_load_rdN {x : Operand} {t : TypeId} {m : Int} {bad : Bool} [ht : TyAgg P t false] (hx : ev E x = some (.pointer (some ⟨b, 1, none⟩))) : Yl P E (rdN b m bad :: L) (.load t x) ty (.int .i64 m) := fun n D W a w dst pos af g ha hs => by
  obtain ⟨v0, hv⟩ := exH_open hs
  exact Y_load (L := cells b [v0, .int .i64 m, .bool bad] 119 :: L) (ht := ht) hx rfl n D W a w dst pos af g ha hv
end
instance findK_rdr {L : List HP} {b : Nat} {s : RS} : FindK (rdr b s :: L) b (rdr b s) L := ⟨Gives.refl _⟩
end Go.SL
