/- Net: packets on their way, told plainly and in memory. -/
import Derived.Test.YtfmkfpgplpfkhaaItB
set_option linter.unusedVariables false
set_option linter.unusedSimpArgs false
namespace Go.SL
open Go Go.Proofs
structure PackD where
  id : Int
  frm : Int
  to_ : Int
  body : ByteArray
abbrev packC (p : PackD) : List Value := [.int .i64 p.id, .int .i64 p.frm, .int .i64 p.to_, .string p.body]
abbrev packV (p : PackD) : Value := .agg (List.toArray (packC p))
def packOk (p : PackD) : Prop := intIn .i64 p.id ∧ intIn .i64 p.frm ∧ intIn .i64 p.to_ ∧ p.body.size ≤ maxEl
def packR : Rep PackD := ⟨4, fun _ a cs => cs = packC a ∧ packOk a, fun _ h => h, fun h => by rw [h.1]; rfl, fun h v hv => by rw [h.1] at hv; simp at hv; rcases hv with rfl | rfl | rfl | rfl <;> rfl⟩
instance : RepF packR packC := ⟨fun _ _ _ h => h.1⟩
abbrev pack0 : PackD := ⟨0, 0, 0, ⟨#[]⟩⟩
section
variable {κ α : Type} [DecidableEq κ] {K : KeyT κ} {b n d : Nat} {P : Program} {E : Env} {L L0 : List HP} {ty : TypeId}
theorem Y_lookup_a {x y : Operand} {t kt et : TypeId} {z : Value} {k : κ} {m : List (κ × α)} {R : Rep α} {f : α → List Value} [hv : RepF R f] [ht : TyDesc P t (.map kt et)] [hf : FindM L b κ α K R true m L0] [hk : KeyOk P kt K] [hz : TyZero P et z] (hx : ev E x = some (.map (some b))) (hy : ev E y = some (K.enc k)) (hok : K.ok k) :
    Yl P E L (.lookup t x y false) ty (lookV (fun u => .agg (f u).toArray) z (getM m k)) := fun n D W a w dst pos af g ha hs => by
  rcases look_run (P := P) (t := t) (kt := kt) (et := et) (z := z) hok false (hs.gives hf.g) with ⟨g1, g2⟩ | ⟨u, cs, g1, g2, g3⟩
  · rw [g1]; simp [execOp, ha.ev hx, ha.ev hy, lookV, g2]
  · obtain ⟨M, q, _, _, _, h1, h2, _, _, _, hi, _⟩ := g2.ex
    have e := hv.e _ _ _ hi
    subst e
    rw [g1]; simp only [lookV]
    simp [execOp, ha.ev hx, ha.ev hy, g3, wrapV]
theorem Y_lookup_ok_a {x y : Operand} {t kt et : TypeId} {z : Value} {k : κ} {m : List (κ × α)} {R : Rep α} {f : α → List Value} [hv : RepF R f] [ht : TyDesc P t (.map kt et)] [hf : FindM L b κ α K R true m L0] [hk : KeyOk P kt K] [hz : TyZero P et z] (hx : ev E x = some (.map (some b))) (hy : ev E y = some (K.enc k)) (hok : K.ok k) :
    Yl P E L (.lookup t x y true) ty (.tuple #[lookV (fun u => .agg (f u).toArray) z (getM m k), .bool (getM m k).isSome]) := fun n D W a w dst pos af g ha hs => by
  rcases look_run (P := P) (t := t) (kt := kt) (et := et) (z := z) hok true (hs.gives hf.g) with ⟨g1, g2⟩ | ⟨u, cs, g1, g2, g3⟩
  · rw [g1]; simp [execOp, ha.ev hx, ha.ev hy, lookV, g2]
  · obtain ⟨M, q, _, _, _, h1, h2, _, _, _, hi, _⟩ := g2.ex
    have e := hv.e _ _ _ hi
    subst e
    rw [g1]; simp only [lookV]
    simp [execOp, ha.ev hx, ha.ev hy, g3, wrapV]
end
/-! ### The net, plainly -/
structure NS where
  nodes : Int
  last : Int
  L : List PackD
def mp (l : List PackD) : List (Int × PackD) := l.map fun p => (p.id, p)
def findN (l : List PackD) (k : Int) : Option PackD := l.find? fun p => decide (p.id = k)
def outN (l : List PackD) (k : Int) : List PackD := l.filter fun p => !decide (p.id = k)
theorem getM_mp (l : List PackD) (k : Int) : getM (mp l) k = findN l k := by
  unfold getM mp findN
  rw [List.find?_map]
  show Option.map (·.2) (Option.map (fun p => (p.id, p)) (l.find? fun p => decide (p.id = k))) = l.find? fun p => decide (p.id = k)
  cases l.find? fun p => decide (p.id = k) <;> rfl
theorem delM_mp (l : List PackD) (k : Int) : delM (mp l) k = mp (outN l k) := by
  unfold delM mp outN; rw [List.filter_map]; rfl
def isN (s : NS) (k : Int) : Prop := 0 ≤ k ∧ k < s.nodes
instance (s : NS) (k : Int) : Decidable (isN s k) := by unfold isN; exact inferInstance
def sendS (s : NS) (f t : Int) (body : ByteArray) : NS × Int × Int :=
  if ¬ isN s f ∨ ¬ isN s t then (s, 0, 1) else if 65536 < body.size then (s, 0, 3) else if 65536 ≤ s.L.length then (s, 0, 2) else (⟨s.nodes, s.last + 1, s.L ++ [⟨s.last + 1, f, t, body⟩]⟩, s.last + 1, 0)
def takeS (s : NS) (k : Int) : NS × PackD × Int := match findN s.L k with
  | none => (s, pack0, 4)
  | some p => (⟨s.nodes, s.last, outN s.L k⟩, p, 0)
def twiceS (s : NS) (k : Int) : NS × Int × Int := match findN s.L k with
  | none => (s, 0, 4)
  | some p => sendS s p.frm p.to_ p.body
/-- What stays true. -/
structure NI (s : NS) : Prop where
  nodes : 1 ≤ s.nodes ∧ s.nodes ≤ 7
  last : 0 ≤ s.last ∧ s.last ≤ 1152921504606846976
  len : s.L.length ≤ 65536
  inc : s.L.Pairwise fun p q => p.id < q.id
  ids : ∀ p ∈ s.L, 1 ≤ p.id ∧ p.id ≤ s.last ∧ 0 ≤ p.frm ∧ p.frm < s.nodes ∧ 0 ≤ p.to_ ∧ p.to_ < s.nodes ∧ p.body.size ≤ 65536
theorem findN_mem {l : List PackD} {k : Int} {p : PackD} (h : findN l k = some p) : p ∈ l ∧ p.id = k := ⟨List.mem_of_find?_eq_some h, by simpa using List.find?_some h⟩
theorem NI.out {s : NS} (h : NI s) (k : Int) : NI ⟨s.nodes, s.last, outN s.L k⟩ :=
  ⟨h.nodes, h.last, Nat.le_trans (List.length_filter_le _ _) h.len, h.inc.filter _, fun p hp => h.ids p (List.mem_filter.1 hp).1⟩
theorem NI.send {s : NS} (h : NI s) {f t : Int} {body : ByteArray} (hf : isN s f) (ht : isN s t) (hb : body.size ≤ 65536) (hl : s.L.length < 65536) (h2 : s.last < 1152921504606846976) : NI ⟨s.nodes, s.last + 1, s.L ++ [⟨s.last + 1, f, t, body⟩]⟩ := by
  have hlast := h.last
  refine ⟨h.nodes, by show 0 ≤ s.last + 1 ∧ s.last + 1 ≤ _; omega, by simp; omega, ?_, fun p hp => ?_⟩
  · refine List.pairwise_append.2 ⟨h.inc, by simp, fun p hp q hq => ?_⟩
    simp at hq; subst hq
    have := h.ids p hp
    show p.id < s.last + 1
    omega
  · rcases List.mem_append.1 hp with hp | hp
    · have := h.ids p hp
      show 1 ≤ p.id ∧ p.id ≤ s.last + 1 ∧ _
      refine ⟨by omega, by omega, this.2.2⟩
    · simp at hp; subst hp
      unfold isN at hf ht
      exact ⟨by show 1 ≤ s.last + 1; omega, Int.le_refl _, hf.1, hf.2, ht.1, ht.2, hb⟩
theorem packOk_of {s : NS} (h : NI s) {p : PackD} (hp : p ∈ s.L) : packOk p := by
  have h1 := h.ids p hp; have h2 := h.nodes; have h3 := h.last
  exact ⟨i64In_mk (by omega), i64In_mk (by omega), i64In_mk (by omega), by simp only [maxEl]; omega⟩
theorem new_id {s : NS} (h : NI s) : ∀ q ∈ mp s.L, q.1 ≠ s.last + 1 := fun q hq => by
  obtain ⟨p, hp, rfl⟩ := List.mem_map.1 hq
  have := h.ids p hp
  show p.id ≠ s.last + 1
  omega
theorem mp_snoc (l : List PackD) (p : PackD) : mp (l ++ [p]) = mp l ++ [(p.id, p)] := by simp [mp]
theorem mp_keys (l : List PackD) : (mp l).map (·.1) = l.map (·.id) := by simp [mp]
/-! ### In memory -/
abbrev ntF (b : Nat) (s : NS) (bt : Nat) : List HP := [cells b [.int .i64 s.nodes, .int .i64 s.last, .map (some bt)] 78, omap intK packR true bt (mp s.L), pure (NI s)]
def nt (b : Nat) (s : NS) : HP := exH (ntF b s)
instance findK_nt {L : List HP} {b : Nat} {s : NS} : FindK (nt b s :: L) b (nt b s) L := ⟨Gives.refl _⟩
section
variable {r : Option Nat} {n : Nat} {P : Program} {ops : Array Oper} {rest : List Oper} {K : St → Prop} {Q : Exit → St → Prop} {D : List Deferred} {E : Env} {L L' : List HP} {b : Nat} {s : NS}
theorem gives_fact2 {p : Prop} {W w : World} (h : Sat W w (pure p :: L)) : p ∧ Sat W w L := by
  obtain ⟨M, k, hd, hM, hk, h1, h2, hd', l1, l2, hp, hs⟩ := h.ex
  exact ⟨hp, h.gives (Gives.drop _ _)⟩
theorem nt_open {W w : World} (h : Sat W w (nt b s :: L)) : ∃ bt, NI s ∧ Sat W w (cells b [.int .i64 s.nodes, .int .i64 s.last, .map (some bt)] 78 :: omap intK packR true bt (mp s.L) :: L) := by
  obtain ⟨bt, hp⟩ := exH_open h
  obtain ⟨hi, hs⟩ := gives_fact2 (hp.gives (Gives.pull 2 (ntF b s bt ++ L)))
  exact ⟨bt, hi, hs⟩
theorem T_nt {c : Code} (h : ∀ bt, NI s → T r n P c ⟨D, E, cells b [.int .i64 s.nodes, .int .i64 s.last, .map (some bt)] 78 :: omap intK packR true bt (mp s.L) :: L⟩ Q) : T r n P c ⟨D, E, nt b s :: L⟩ Q := fun W a w hh => by
  obtain ⟨bt, hi, hs⟩ := nt_open hh.2
  exact h bt hi W a w ⟨hh.1, hs⟩
theorem TL_nt (h : ∀ bt, NI s → TL r n P ops rest ⟨D, E, cells b [.int .i64 s.nodes, .int .i64 s.last, .map (some bt)] 78 :: omap intK packR true bt (mp s.L) :: L⟩ K) : TL r n P ops rest ⟨D, E, nt b s :: L⟩ K := fun W a w hh => by
  obtain ⟨bt, hi, hs⟩ := nt_open hh.2
  exact h bt hi W a w ⟨hh.1, hs⟩
theorem nt_close {bt : Nat} {L1 L2 : List HP} (b : Nat) (s : NS) [h1 : FindC L b [.int .i64 s.nodes, .int .i64 s.last, .map (some bt)] 78 L1] [h2 : FindM L1 bt Int PackD intK packR true (mp s.L) L2] (hi : NI s) : Gives L (nt b s :: L2) := by
  refine Gives.trans (h1.g.trans (Gives.cons _ h2.g)) ?_
  refine Gives.trans ?_ (exH_close (f := ntF b s) bt)
  exact Gives.cons _ (Gives.cons _ (Gives.pure_intro hi))
end
end Go.SL
