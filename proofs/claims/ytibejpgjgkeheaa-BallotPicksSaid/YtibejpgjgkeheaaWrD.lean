/- Codec: which records may be written, told plainly. -/
import Derived.Test.YtibejpgjgkeheaaWrC
set_option linter.unusedVariables false
set_option linter.unusedSimpArgs false
namespace Go.SL
open Go Go.Proofs
def rNum (most n : Int) : Prop := 0 ≤ n ∧ n ≤ most
instance (most n : Int) : Decidable (rNum most n) := by unfold rNum; exact inferInstance
def rVec (v : List Int) : Prop := (∀ n ∈ v, rNum 2147483647 n) ∧ v.length ≤ 7 ∧ lastZero v = false
instance (v : List Int) : Decidable (rVec v) := by unfold rVec; exact inferInstance
def rBal (a : Int × Int) : Prop := rNum 2147483647 a.1 ∧ rNum 6 a.2
instance (a : Int × Int) : Decidable (rBal a) := by unfold rBal; exact inferInstance
def rSeal (x : OrderD) : Prop := isName x.token ∧ isName x.cart ∧ rNum 2147483647 x.epoch ∧ rVec x.cut
instance (x : OrderD) : Decidable (rSeal x) := by unfold rSeal; exact inferInstance
def rEntry (e : EntryD) : Prop := if e.noop = true then someSeal e.order = false else rSeal e.order
instance (e : EntryD) : Decidable (rEntry e) := by unfold rEntry; exact inferInstance
def rEvent (e : EventD) : Prop := rNum 6 e.dot.1 ∧ rNum 2147483647 e.dot.2 ∧ rVec e.deps ∧ isName e.cart ∧ rNum 2147483647 e.epoch ∧ isName e.sku ∧ rNum 1000 e.qty
instance (e : EventD) : Decidable (rEvent e) := by unfold rEvent; exact inferInstance
def rVoted (v : VotedD) : Prop := rNum 2147483647 v.slot ∧ rBal v.bal ∧ rEntry v.en
instance (v : VotedD) : Decidable (rVoted v) := by unfold rVoted; exact inferInstance
def rMsg (m : MsgD) : Prop := rNum 255 m.kind ∧ rNum 6 m.frm ∧ rNum 6 m.to_ ∧ rBal m.bal ∧ rNum 2147483647 m.slot ∧ rEntry m.en ∧ (m.voted.length ≤ 4096 ∧ ∀ v ∈ m.voted, rVoted v) ∧ rVec m.seen ∧ (m.events.length ≤ 4096 ∧ ∀ v ∈ m.events, rEvent v) ∧ rNum 4611686018427387904 m.time
instance (m : MsgD) : Decidable (rMsg m) := by unfold rMsg; exact inferInstance

theorem wNum_bad {most n : Int} {s : WS} : (wNum most n s).2 = false ↔ s.2 = false ∧ rNum most n := by
  unfold wNum rNum; split
  · simp; omega
  · simp; omega
theorem wName_bad {t : ByteArray} {s : WS} : (wName t s).2 = false ↔ s.2 = false ∧ isName t := by
  show (wNum 65536 (t.size : Int) (s.1, s.2 || !decide (isName t))).2 = false ↔ _
  rw [wNum_bad]
  constructor
  · rintro ⟨h, _⟩
    simpa using h
  · rintro ⟨h1, h2⟩
    refine ⟨by simp [h1, h2], ?_⟩
    have := h2.2.2
    unfold rNum; omega
theorem wTruth_bad {b : Bool} {s : WS} : (wTruth b s).2 = false ↔ s.2 = false := by
  unfold wTruth
  rw [wNum_bad]
  cases b <;> simp [rNum]
theorem wInts_bad : ∀ {v : List Int} {s : WS}, (wInts v s).2 = false ↔ s.2 = false ∧ ∀ n ∈ v, rNum 2147483647 n
  | [], s => by simp [wInts]
  | n :: v, s => by
    show (wInts v (wNum 2147483647 n s)).2 = false ↔ _
    rw [wInts_bad, wNum_bad]
    simp [and_assoc]
theorem wVec_bad {v : List Int} {s : WS} : (wVec v s).2 = false ↔ s.2 = false ∧ rVec v := by
  unfold wVec rVec
  rw [wInts_bad, wNum_bad]
  simp only [Bool.or_eq_false_iff]
  constructor
  · rintro ⟨⟨⟨h1, h2⟩, h3⟩, h4⟩
    exact ⟨h1, h4, by unfold rNum at h3; omega, h2⟩
  · rintro ⟨h1, h4, h3, h2⟩
    exact ⟨⟨⟨h1, h2⟩, by unfold rNum; omega⟩, h4⟩
theorem wBal_bad {a : Int × Int} {s : WS} : (wBal a s).2 = false ↔ s.2 = false ∧ rBal a := by
  unfold wBal rBal; rw [wNum_bad, wNum_bad, and_assoc]
theorem wSeal_bad {x : OrderD} {s : WS} : (wSeal x s).2 = false ↔ s.2 = false ∧ rSeal x := by
  unfold wSeal rSeal; rw [wVec_bad, wNum_bad, wName_bad, wName_bad]; simp only [and_assoc]
theorem wEntry_bad {e : EntryD} {s : WS} : (wEntry e s).2 = false ↔ s.2 = false ∧ rEntry e := by
  unfold wEntry rEntry
  simp only []
  split
  · simp [wTruth_bad]
  · rw [wSeal_bad, wTruth_bad]
theorem wEvent_bad {e : EventD} {s : WS} : (wEvent e s).2 = false ↔ s.2 = false ∧ rEvent e := by
  unfold wEvent rEvent; rw [wTruth_bad, wNum_bad, wName_bad, wNum_bad, wName_bad, wVec_bad, wNum_bad, wNum_bad]; simp only [and_assoc]
theorem wVoted_bad {v : VotedD} {s : WS} : (wVoted v s).2 = false ↔ s.2 = false ∧ rVoted v := by
  unfold wVoted rVoted; rw [wEntry_bad, wBal_bad, wNum_bad]; simp only [and_assoc]
theorem wVoteds_bad : ∀ {v : List VotedD} {s : WS}, (wVoteds v s).2 = false ↔ s.2 = false ∧ ∀ n ∈ v, rVoted n
  | [], s => by simp [wVoteds]
  | n :: v, s => by
    show (wVoteds v (wVoted n s)).2 = false ↔ _
    rw [wVoteds_bad, wVoted_bad]
    simp [and_assoc]
theorem wEvents_bad : ∀ {v : List EventD} {s : WS}, (wEvents v s).2 = false ↔ s.2 = false ∧ ∀ n ∈ v, rEvent n
  | [], s => by simp [wEvents]
  | n :: v, s => by
    show (wEvents v (wEvent n s)).2 = false ↔ _
    rw [wEvents_bad, wEvent_bad]
    simp [and_assoc]
theorem rNum_len {k : Nat} {most : Nat} : rNum (most : Int) (k : Int) ↔ k ≤ most := by unfold rNum; omega
theorem wMsg_bad {m : MsgD} {s : WS} : (wMsg m s).2 = false ↔ s.2 = false ∧ rMsg m := by
  unfold wMsg rMsg
  rw [wNum_bad, wEvents_bad, wNum_bad, wVec_bad, wVoteds_bad, wNum_bad, wEntry_bad, wNum_bad, wBal_bad, wNum_bad, wNum_bad, wNum_bad]
  have h1 : rNum 4096 (m.voted.length : Int) ↔ m.voted.length ≤ 4096 := rNum_len (most := 4096)
  have h2 : rNum 4096 (m.events.length : Int) ↔ m.events.length ≤ 4096 := rNum_len (most := 4096)
  rw [h1, h2]; simp only [and_assoc]

/-! ### A message that only bears an entry -/
def mEntry (e : EntryD) : MsgD := ⟨0, 0, 0, (0, 0), 0, e, [], [], [], 0⟩
theorem mEntry_right {e : EntryD} : rMsg (mEntry e) ↔ rEntry e := by
  simp [rMsg, mEntry, rNum, rBal, rVec, lastZero]
theorem some_len {x : OrderD} (h : someSeal x = false) : x.token.size = 0 ∧ x.cart.size = 0 ∧ x.cut.length = 0 := by
  simp only [someSeal, Bool.or_eq_false_iff, decide_eq_false_iff_not, Classical.not_not] at h
  exact ⟨(empty_eq _).1 h.1.1.1, (empty_eq _).1 h.1.1.2, by have := h.2; omega⟩
theorem rEntry_size {e : EntryD} (h : rEntry e) : cSeal e.order ≤ 300 := by
  unfold rEntry at h
  split at h
  · have := some_len h
    unfold cSeal; omega
  · have h1 := h.1.2.2; have h2 := h.2.1.2.2; have h3 := h.2.2.2.2.1
    unfold cSeal; omega
theorem wMsg_len0 (e : EntryD) (hb : cSeal e.order ≤ 140737488355000) : (wMsg (mEntry e) ([], false)).1.length ≤ cSeal e.order + 200 := by
  have h1 := wNum_len 255 0 ([], false) (by decide)
  have h2 := wNum_len 6 0 (wNum 255 0 ([], false)) (by decide)
  have h3 := wNum_len 6 0 (wNum 6 0 (wNum 255 0 ([], false))) (by decide)
  have h4 := wBal_len (0, 0) (wNum 6 0 (wNum 6 0 (wNum 255 0 ([], false))))
  have h5 := wNum_len 2147483647 0 (wBal (0, 0) (wNum 6 0 (wNum 6 0 (wNum 255 0 ([], false))))) (by decide)
  have h6 := wEntry_len e (wNum 2147483647 0 (wBal (0, 0) (wNum 6 0 (wNum 6 0 (wNum 255 0 ([], false))))))
  have h7 := wNum_len 4096 0 (wEntry e (wNum 2147483647 0 (wBal (0, 0) (wNum 6 0 (wNum 6 0 (wNum 255 0 ([], false))))))) (by decide)
  have h8 := wVec_len [] (wNum 4096 0 (wEntry e (wNum 2147483647 0 (wBal (0, 0) (wNum 6 0 (wNum 6 0 (wNum 255 0 ([], false))))))))
  have h9 := wNum_len 4096 0 (wVec [] (wNum 4096 0 (wEntry e (wNum 2147483647 0 (wBal (0, 0) (wNum 6 0 (wNum 6 0 (wNum 255 0 ([], false))))))))) (by decide)
  have h10 := wNum_len 4611686018427387904 0 (wNum 4096 0 (wVec [] (wNum 4096 0 (wEntry e (wNum 2147483647 0 (wBal (0, 0) (wNum 6 0 (wNum 6 0 (wNum 255 0 ([], false)))))))))) (by decide)
  have e1 : wMsg (mEntry e) ([], false) = wNum 4611686018427387904 0 (wNum 4096 0 (wVec [] (wNum 4096 0 (wEntry e (wNum 2147483647 0 (wBal (0, 0) (wNum 6 0 (wNum 6 0 (wNum 255 0 ([], false)))))))))) := rfl
  rw [e1]
  simp only [List.length_nil] at *
  have : 60 ≤ cSeal e.order := by unfold cSeal; omega
  omega
theorem outE_entry {e : EntryD} (hb : cSeal e.order ≤ 140737488355000) : outE (wMsg (mEntry e) ([], false)) = if rEntry e then 0 else 1 := by
  have hbad := wMsg_bad (m := mEntry e) (s := ([], false))
  rw [mEntry_right] at hbad
  unfold outE
  by_cases h : rEntry e
  · have h1 : (wMsg (mEntry e) ([], false)).2 = false := hbad.2 ⟨rfl, h⟩
    have h2 := wMsg_len0 e hb
    have h3 := rEntry_size h
    rw [if_neg (by rw [h1]; simp), if_neg (by omega), if_pos h]
  · have h1 : (wMsg (mEntry e) ([], false)).2 = true := by
      cases hh : (wMsg (mEntry e) ([], false)).2 with
      | true => rfl
      | false => exact absurd (hbad.1 hh).2 h
    rw [if_pos h1, if_neg h]
theorem outE_seal {x : OrderD} : outE (wSeal x ([], false)) = if rSeal x then 0 else 1 := by
  have hbad := wSeal_bad (x := x) (s := ([], false))
  unfold outE
  by_cases h : rSeal x
  · have h1 : (wSeal x ([], false)).2 = false := hbad.2 ⟨rfl, h⟩
    have h2 := wSeal_len x ([], false)
    have h3 : cSeal x ≤ 300 := by
      have h1 := h.1.2.2; have h2 := h.2.1.2.2; have h3 := h.2.2.2.2.1
      unfold cSeal; omega
    rw [if_neg (by rw [h1]; simp), if_neg (by simp only [List.length_nil] at h2; omega), if_pos h]
  · have h1 : (wSeal x ([], false)).2 = true := by
      cases hh : (wSeal x ([], false)).2 with
      | true => rfl
      | false => exact absurd (hbad.1 hh).2 h
    rw [if_pos h1, if_neg h]

/-! ### Contracts -/
theorem i0 : intIn .i64 0 := by decide
/-- codec.Msg of an entry: only whether it may be written counts. -/
theorem msgEntry_spec {L : List HP} {A : Option Addr} {c : Nat} (e : EntryD) (hx : orderOk' e.order) (hk : SlK L (intR .i64) A c e.order.cut) (hb : cSeal e.order ≤ 140737488355000) : Fn Try.prog 81 #[.agg (List.toArray (msgC (mEntry e) ⟨(A, c), (none, 0), (none, 0), (none, 0)⟩))] L (fun v L' => (∃ B d k, v = .tuple #[.slice B k d, .int .i64 (if rEntry e then 0 else 1)]) ∧ L' = L) :=
  (msg_spec (mEntry e) ⟨(A, c), (none, 0), (none, 0), (none, 0)⟩ ⟨i0, i0, i0, i0, i0, i0, hx, i0⟩ ⟨hk, slnil, slnil, slnil⟩ (by simp only [cMsg, mEntry, cVoteds, cEvents]; simp; omega)).mono fun v L' h => by
    obtain ⟨B, d, h1, h2⟩ := h
    subst h2
    exact ⟨L, Gives.drop _ _, ⟨B, d, _, by rw [h1, outE_entry hb]⟩, rfl⟩
end Go.SL
