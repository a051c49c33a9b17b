/- Codec: what the writer makes of records, told plainly; the writer in memory. -/
import Derived.Test.YtibejpgjgkeheaaCodE
import Derived.Test.YtibejpgjgkeheaaVoted
import Derived.Test.YtibejpgjgkeheaaSlL
set_option linter.unusedVariables false
set_option linter.unusedSimpArgs false
namespace Go.SL
open Go Go.Proofs
structure EventD where
  dot : Int × Int
  deps : List Int
  cart : ByteArray
  epoch : Int
  sku : ByteArray
  qty : Int
  clears : Bool
structure MsgD where
  kind : Int
  frm : Int
  to_ : Int
  bal : Int × Int
  slot : Int
  en : EntryD
  voted : List VotedD
  seen : List Int
  events : List EventD
  time : Int
abbrev eventC (e : EventD) (p : Option Addr × Nat) : List Value := [.int .i64 e.dot.1, .int .i64 e.dot.2, .slice p.1 e.deps.length p.2, .string e.cart, .int .i64 e.epoch, .string e.sku, .int .i64 e.qty, .bool e.clears]
def eventOk (e : EventD) : Prop := intIn .i64 e.dot.1 ∧ intIn .i64 e.dot.2 ∧ e.deps.length ≤ 17592186043904 ∧ e.cart.size ≤ maxEl ∧ intIn .i64 e.epoch ∧ e.sku.size ≤ maxEl ∧ intIn .i64 e.qty
def eventR : Rep EventD := exR 8 eventC (fun e p => [sl (intR .i64) p.1 p.2 e.deps]) eventOk (fun _ _ => rfl) (fun _ _ => rfl)

/-! ### What is written -/
abbrev WS := List Int × Bool
def wNum (most n : Int) (s : WS) : WS := if n < 0 ∨ n > most then (s.1, true) else (s.1 ++ grp n.toNat, s.2)
def wName (t : ByteArray) (s : WS) : WS := let u := wNum 65536 (t.size : Int) (s.1, s.2 || !decide (isName t)); (u.1 ++ strBytes t, u.2)
def wTruth (b : Bool) (s : WS) : WS := wNum 1 (if b then 1 else 0) s
def lastZero (v : List Int) : Bool := decide (0 < v.length ∧ v[v.length - 1]? = some 0)
def wInts (v : List Int) (s : WS) : WS := v.foldl (fun s n => wNum 2147483647 n s) s
def wVec (v : List Int) (s : WS) : WS := wInts v (wNum 7 (v.length : Int) (s.1, s.2 || lastZero v))
def wBal (a : Int × Int) (s : WS) : WS := wNum 6 a.2 (wNum 2147483647 a.1 s)
def wSeal (x : OrderD) (s : WS) : WS := wVec x.cut (wNum 2147483647 x.epoch (wName x.cart (wName x.token s)))
def someSeal (x : OrderD) : Bool := decide (x.token ≠ emptyS) || decide (x.cart ≠ emptyS) || decide (x.epoch ≠ 0) || decide (0 < (x.cut.length : Int))
def wEntry (e : EntryD) (s : WS) : WS := let u := wTruth e.noop s; if e.noop = true then (u.1, u.2 || someSeal e.order) else wSeal e.order u
def wEvent (e : EventD) (s : WS) : WS := wTruth e.clears (wNum 1000 e.qty (wName e.sku (wNum 2147483647 e.epoch (wName e.cart (wVec e.deps (wNum 2147483647 e.dot.2 (wNum 6 e.dot.1 s)))))))
def wVoted (v : VotedD) (s : WS) : WS := wEntry v.en (wBal v.bal (wNum 2147483647 v.slot s))
def wVoteds (l : List VotedD) (s : WS) : WS := l.foldl (fun s v => wVoted v s) s
def wEvents (l : List EventD) (s : WS) : WS := l.foldl (fun s v => wEvent v s) s
def wMsg (m : MsgD) (s : WS) : WS := wNum 4611686018427387904 m.time (wEvents m.events (wNum 4096 (m.events.length : Int) (wVec m.seen (wVoteds m.voted (wNum 4096 (m.voted.length : Int)
  (wEntry m.en (wNum 2147483647 m.slot (wBal m.bal (wNum 6 m.to_ (wNum 6 m.frm (wNum 255 m.kind s)))))))))))

/-! ### How much is written -/
def cSeal (x : OrderD) : Nat := x.token.size + x.cart.size + 10 * x.cut.length + 60
def cEvent (e : EventD) : Nat := e.cart.size + e.sku.size + 10 * e.deps.length + 100
def cVoted (v : VotedD) : Nat := cSeal v.en.order + 50
def cVoteds (l : List VotedD) : Nat := (l.map cVoted).sum
def cEvents (l : List EventD) : Nat := (l.map cEvent).sum
def cMsg (m : MsgD) : Nat := cSeal m.en.order + cVoteds m.voted + 10 * m.seen.length + cEvents m.events + 200
theorem wNum_len (most n : Int) (s : WS) (hm : most ≤ 4611686018427387904) : s.1.length ≤ (wNum most n s).1.length ∧ (wNum most n s).1.length ≤ s.1.length + 10 := by
  unfold wNum; split
  · simp
  · have := grp_ten (x := n.toNat) (by omega)
    simp; omega
theorem wName_len (t : ByteArray) (s : WS) : s.1.length ≤ (wName t s).1.length ∧ (wName t s).1.length ≤ s.1.length + 10 + t.size := by
  have := wNum_len 65536 (t.size : Int) (s.1, s.2 || !decide (isName t)) (by decide)
  simp only [wName, List.length_append, strBytes_length]; simp only at this; omega
theorem wTruth_len (b : Bool) (s : WS) : s.1.length ≤ (wTruth b s).1.length ∧ (wTruth b s).1.length ≤ s.1.length + 10 := wNum_len _ _ s (by decide)
theorem wInts_len : ∀ (v : List Int) (s : WS), s.1.length ≤ (wInts v s).1.length ∧ (wInts v s).1.length ≤ s.1.length + 10 * v.length
  | [], s => by simp [wInts]
  | n :: v, s => by
    have h1 := wNum_len 2147483647 n s (by decide)
    have h2 := wInts_len v (wNum 2147483647 n s)
    simp only [wInts, List.foldl_cons, List.length_cons] at h2 ⊢; omega
theorem wVec_len (v : List Int) (s : WS) : s.1.length ≤ (wVec v s).1.length ∧ (wVec v s).1.length ≤ s.1.length + 10 + 10 * v.length := by
  have h1 := wNum_len 7 (v.length : Int) (s.1, s.2 || lastZero v) (by decide)
  have h2 := wInts_len v (wNum 7 (v.length : Int) (s.1, s.2 || lastZero v))
  unfold wVec; simp only at h1; omega
theorem wBal_len (a : Int × Int) (s : WS) : s.1.length ≤ (wBal a s).1.length ∧ (wBal a s).1.length ≤ s.1.length + 20 := by
  have h1 := wNum_len 2147483647 a.1 s (by decide)
  have h2 := wNum_len 6 a.2 (wNum 2147483647 a.1 s) (by decide)
  unfold wBal; omega
theorem wSeal_len (x : OrderD) (s : WS) : s.1.length ≤ (wSeal x s).1.length ∧ (wSeal x s).1.length ≤ s.1.length + (cSeal x - 20) := by
  have h1 := wName_len x.token s
  have h2 := wName_len x.cart (wName x.token s)
  have h3 := wNum_len 2147483647 x.epoch (wName x.cart (wName x.token s)) (by decide)
  have h4 := wVec_len x.cut (wNum 2147483647 x.epoch (wName x.cart (wName x.token s)))
  unfold wSeal cSeal; omega
theorem wEntry_len (e : EntryD) (s : WS) : s.1.length ≤ (wEntry e s).1.length ∧ (wEntry e s).1.length ≤ s.1.length + (cSeal e.order - 10) := by
  have h1 := wTruth_len e.noop s
  have h2 := wSeal_len e.order (wTruth e.noop s)
  unfold wEntry; simp only []
  split
  · simp only [cSeal]; omega
  · simp only [cSeal] at h2 ⊢; omega
theorem wEvent_len (e : EventD) (s : WS) : s.1.length ≤ (wEvent e s).1.length ∧ (wEvent e s).1.length ≤ s.1.length + (cEvent e - 20) := by
  have h1 := wNum_len 6 e.dot.1 s (by decide)
  have h2 := wNum_len 2147483647 e.dot.2 (wNum 6 e.dot.1 s) (by decide)
  have h3 := wVec_len e.deps (wNum 2147483647 e.dot.2 (wNum 6 e.dot.1 s))
  have h4 := wName_len e.cart (wVec e.deps (wNum 2147483647 e.dot.2 (wNum 6 e.dot.1 s)))
  have h5 := wNum_len 2147483647 e.epoch (wName e.cart (wVec e.deps (wNum 2147483647 e.dot.2 (wNum 6 e.dot.1 s)))) (by decide)
  have h6 := wName_len e.sku (wNum 2147483647 e.epoch (wName e.cart (wVec e.deps (wNum 2147483647 e.dot.2 (wNum 6 e.dot.1 s)))))
  have h7 := wNum_len 1000 e.qty (wName e.sku (wNum 2147483647 e.epoch (wName e.cart (wVec e.deps (wNum 2147483647 e.dot.2 (wNum 6 e.dot.1 s)))))) (by decide)
  have h8 := wTruth_len e.clears (wNum 1000 e.qty (wName e.sku (wNum 2147483647 e.epoch (wName e.cart (wVec e.deps (wNum 2147483647 e.dot.2 (wNum 6 e.dot.1 s)))))))
  unfold wEvent cEvent; omega
theorem wVoted_len (v : VotedD) (s : WS) : s.1.length ≤ (wVoted v s).1.length ∧ (wVoted v s).1.length ≤ s.1.length + (cVoted v - 10) := by
  have h1 := wNum_len 2147483647 v.slot s (by decide)
  have h2 := wBal_len v.bal (wNum 2147483647 v.slot s)
  have h3 := wEntry_len v.en (wBal v.bal (wNum 2147483647 v.slot s))
  unfold wVoted cVoted; simp only [cSeal] at h3 ⊢; omega
theorem wVoteds_len : ∀ (l : List VotedD) (s : WS), s.1.length ≤ (wVoteds l s).1.length ∧ (wVoteds l s).1.length ≤ s.1.length + cVoteds l
  | [], s => by simp [wVoteds, cVoteds]
  | v :: l, s => by
    have h1 := wVoted_len v s
    have h2 := wVoteds_len l (wVoted v s)
    simp only [wVoteds, List.foldl_cons, cVoteds, List.map_cons, List.sum_cons] at h2 ⊢; omega
theorem wEvents_len : ∀ (l : List EventD) (s : WS), s.1.length ≤ (wEvents l s).1.length ∧ (wEvents l s).1.length ≤ s.1.length + cEvents l
  | [], s => by simp [wEvents, cEvents]
  | v :: l, s => by
    have h1 := wEvent_len v s
    have h2 := wEvents_len l (wEvent v s)
    simp only [wEvents, List.foldl_cons, cEvents, List.map_cons, List.sum_cons] at h2 ⊢; omega

/-! ### The writer in memory -/
abbrev wrF (b : Nat) (s : WS) (p : Option Addr × Nat) : List HP := [cells b [.slice p.1 s.1.length p.2, .bool s.2] 205, osl (intR .u8) 5 p.1 p.2 s.1]
def wr (b : Nat) (s : WS) : HP := exH (wrF b s)
section
variable {r : Option Nat} {n : Nat} {P : Program} {ops : Array Oper} {rest : List Oper} {K : St → Prop} {Q : Exit → St → Prop} {D : List Deferred} {E : Env} {L L' : List HP} {b : Nat} {s : WS}
theorem T_wr {c : Code} (h : ∀ A c', T r n P c ⟨D, E, cells b [.slice A s.1.length c', .bool s.2] 205 :: osl (intR .u8) 5 A c' s.1 :: L⟩ Q) : T r n P c ⟨D, E, wr b s :: L⟩ Q := T_exH (f := wrF b s) fun p => h p.1 p.2
theorem TL_wr (h : ∀ A c', TL r n P ops rest ⟨D, E, cells b [.slice A s.1.length c', .bool s.2] 205 :: osl (intR .u8) 5 A c' s.1 :: L⟩ K) : TL r n P ops rest ⟨D, E, wr b s :: L⟩ K := TL_exH (f := wrF b s) fun p => h p.1 p.2
theorem wr_close {A : Option Addr} {c : Nat} : Gives (cells b [.slice A s.1.length c, .bool s.2] 205 :: osl (intR .u8) 5 A c s.1 :: L) (wr b s :: L) := exH_close (f := wrF b s) (A, c)
end
instance findK_wr {L : List HP} {b : Nat} {s : WS} : FindK (wr b s :: L) b (wr b s) L := ⟨Gives.refl _⟩
end Go.SL
