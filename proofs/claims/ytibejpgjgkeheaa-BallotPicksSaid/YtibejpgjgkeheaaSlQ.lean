/- The rules of the logic: a range over a function; functions that come as values. Nothing in this text is about one program. -/
import Derived.RangeFuncRecord
import Derived.Test.YtibejpgjgkeheaaSlL
set_option linter.unusedVariables false
set_option linter.unusedSectionVars false
namespace Go.SL
open Go
/-- The record of a range over a function. -/
def lrec (l n : Nat) (E : Env) (ps : Array Tmp) (assign body : Code) (b0 : Nat) (st : LoopState) (j : Option Code) : HP :=
  ⟨fun _ h => ∃ (fn : FuncId) (tmps : Array Value), tmps.size = n ∧ (∀ i v, look E i = some v → tmps[i]? = some v) ∧ h l = some (.loop { state := st, pending := j, fn := fn, tmps := tmps, params := ps, assign := assign, body := body, defers := b0 }),
    fun _ hh ⟨fn, tmps, h1, h2, h3⟩ => ⟨fn, tmps, h1, h2, hh _ _ h3⟩⟩
def mark (b : Nat) : Deferred := { target := .collected b, args := #[] }
abbrev own0 (b : Nat) : HP := own b (.deferred (some []))
section
variable {l n : Nat} {E : Env} {ps : Array Tmp} {assign body : Code} {b0 : Nat} {st st' : LoopState} {j j' : Option Code} {L L' : List HP} {o w : World} {P : Program}
abbrev loopO (fn : FuncId) (tmps : Array Value) (ps : Array Tmp) (assign body : Code) (b0 : Nat) (st : LoopState) (j : Option Code) : Obj := .loop { state := st, pending := j, fn := fn, tmps := tmps, params := ps, assign := assign, body := body, defers := b0 }
theorem lrec_open (h : Sat o w (lrec l n E ps assign body b0 st j :: L)) : ∃ fn tmps, tmps.size = n ∧ (∀ i v, look E i = some v → tmps[i]? = some v) ∧ Sat o w (own l (loopO fn tmps ps assign body b0 st j) :: L) := by
  obtain ⟨M, k, hd, hM, hk, h1, h2, hd', l1, l2, ⟨fn, tmps, a, b, c⟩, hs⟩ := h.ex
  exact ⟨fn, tmps, a, b, ⟨M, k, hd, hM, hk, h1, h2, hd', l1, l2, c, hs⟩, h.os, h.tape, h.output, h.size⟩
theorem lrec_close {fn : FuncId} {tmps : Array Value} (h1 : tmps.size = n) (h2 : ∀ i v, look E i = some v → tmps[i]? = some v) : Gives (own l (loopO fn tmps ps assign body b0 st j) :: L) (lrec l n E ps assign body b0 st j :: L) :=
  fun M h ⟨a1, a2, ad, m1, m2, hp, hs⟩ => ⟨a1, a2, ad, m1, m2, ⟨fn, tmps, h1, h2, hp⟩, hs⟩
theorem Sat.put {b : Nat} {x y : Obj} (h : Sat o w (own b x :: L)) : Sat o (w.putObj b y) (own b y :: L) := by
  have hb := h.own_at
  exact h.set (World.putObj_heap_same (Array.getElem?_eq_some_iff.1 hb).1) (fun i hi => World.putObj_heap_other hi) rfl rfl rfl (by simp)
end
/-- Yield, called so, comes to what Φ tells. -/
def YieldC (P : Program) (l : Nat) (vs : List Value) (L : List HP) (Φ : Value → List HP → Prop) : Prop :=
  ∀ r o w, Sat o w L → ∃ f tmps assign body, (Instr.yield l vs.toArray).run P w = .ok (.round l f tmps assign body) w ∧ RoundIn (Fw r) 0 P l f tmps assign body w (fun e w' => ∃ v L', e = .returned v ∧ Φ v L' ∧ Sat o w' L')
section
variable {r : Option Nat} {n : Nat} {P : Program} {ops : Array Oper} {rest : List Oper} {K : St → Prop} {Q : Exit → St → Prop} {D : List Deferred} {E : Env} {L L' : List HP} {d : Nat} {ty : TypeId} {pos : String} {af : Array Edge}
theorem run_call_yield {l : Nat} {c : Operand} {xs : List Operand} {vs : List Value} {ts : Array TypeId} {a : Act} {w : World} {dst : Option Tmp} {nx : Next} (ha : View n D a E) (hf : ev E c = some (.func (.yield l) #[] #[])) (hx : evl E xs = some vs) (hy : (Instr.yield l vs.toArray).run P w = .ok nx w) :
    (execOp a.eval ⟨dst, .call { callee := .value c, args := xs.toArray, argTypes := ts }, ty, pos, af, none⟩).run P w = .ok nx w := by
  simp [execOp, resolve, invoke, ha.ev hf, Deferred.ofValue, ha.evl hx, hy]
theorem TL_yield {l : Nat} {c : Operand} {xs : List Operand} {vs : List Value} {ts : Array TypeId} {Φ : Value → List HP → Prop} (hd : Nat.blt d n = true) (hf : ev E c = some (.func (.yield l) #[] #[])) (hx : evl E xs = some vs) (spec : YieldC P l vs L Φ)
    (h : ∀ v L', Φ v L' → TL r n P ops rest ⟨D, (d, v) :: E, L'⟩ K) : TL r n P ops (⟨some d, .call { callee := .value c, args := xs.toArray, argTypes := ts }, ty, pos, af, none⟩ :: rest) ⟨D, E, L⟩ K := fun W a w hh => by
  refine wpListIn_plain rfl fun K' hK => ⟨fun _ _ => trivial, ?_⟩
  obtain ⟨f, tmps, assign, body, hy, hr⟩ := spec r W w hh.2
  rw [Oper.semAt_eq _ _ _ (fun _ e => by cases e), run_call_yield hh.1 hf hx hy]
  refine ⟨fun hx => by simp at hx, hr.mono ?_⟩
  rintro e w' ⟨v, L', rfl, hΦ, hs⟩
  exact hK _ _ (h v L' hΦ W _ _ ⟨hh.1.put (by simpa using hd) v, hs⟩)
/-! ### A round -/
def setE : List (Tmp × Value) → Env → Env
  | [], E => E
  | (t, v) :: r, E => setE r ((t, v) :: E)
theorem view_set : ∀ {ts : List (Tmp × Value)} {tm : Array Value} {E : Env}, tm.size = n → (∀ i v, look E i = some v → tm[i]? = some v) → (∀ p ∈ ts, p.1 < n) →
    (ts.foldl (fun tmps (p : Tmp × Value) => tmps.setIfInBounds p.1 p.2) tm).size = n ∧ ∀ i v, look (setE ts E) i = some v → (ts.foldl (fun tmps (p : Tmp × Value) => tmps.setIfInBounds p.1 p.2) tm)[i]? = some v
  | [], tm, E, hs, hv, _ => ⟨hs, hv⟩
  | (t, u) :: r, tm, E, hs, hv, hl => by
    have ht := hl (t, u) List.mem_cons_self
    refine view_set (ts := r) (tm := tm.setIfInBounds t u) (E := (t, u) :: E) (by simpa using hs) (fun i v hi => ?_) (fun p hp => hl p (List.mem_cons_of_mem _ hp))
    have hview : View n [] (({ tmps := tm, defers := [] } : Act).put (some t) u) ((t, u) :: E) := View.put (a := { tmps := tm, defers := [] }) (E := E) (D := []) ⟨hs, rfl, hv⟩ ht u
    exact hview.get i v hi
/-- What a round comes to, by the way its body ends. -/
def roundQ (l n : Nat) (E : Env) (ps : Array Tmp) (assign body : Code) (b0 : Nat) (j : Option Code) (Φ : Value → List HP → Prop) : Exit → St → Prop
  | .normal, s => ∃ L3, Gives s.L (lrec l n E ps assign body b0 .busy j :: L3) ∧ Φ (.bool true) (lrec l n E ps assign body b0 .ready none :: L3)
  | .ret, s => ∃ L3, Gives s.L (lrec l n E ps assign body b0 .busy j :: L3) ∧ Φ (.bool false) (lrec l n E ps assign body b0 .done (some .ret) :: L3)
  | .exit id, s => ∃ L3, Gives s.L (lrec l n E ps assign body b0 .busy j :: L3) ∧ Φ (.bool false) (lrec l n E ps assign body b0 .done (some (.exit id)) :: L3)
  | _, _ => False
theorem lrec_end {l : Nat} {ps : Array Tmp} {assign body : Code} {b0 : Nat} {j jump : Option Code} {o w : World} (h : Sat o w (lrec l n E ps assign body b0 .busy j :: L)) :
    ∃ w', (Instr.endRound l jump).run P w = .ok (.bool jump.isNone) w' ∧ Sat o w' (lrec l n E ps assign body b0 (if jump.isNone then .ready else .done) jump :: L) := by
  obtain ⟨fn, tmps, h1, h2, hs⟩ := lrec_open h
  exact ⟨_, run_endRound jump hs.own_at, (hs.put).gives (lrec_close h1 h2)⟩
theorem YieldC_of {l : Nat} {ps : Array Tmp} {assign body : Code} {b0 : Nat} {j : Option Code} {vs : List Value} {Φ : Value → List HP → Prop} (hsz : vs.length = ps.size) (hps : ∀ t ∈ ps, t < n)
    (h : T (some l) n P assign ⟨[], setE (ps.toList.zip vs) E, lrec l n E ps assign body b0 .ready j :: L⟩ (fun e s => e = .normal ∧ ∃ L2, Gives s.L (lrec l n E ps assign body b0 .ready j :: L2) ∧ T (some l) n P body ⟨s.D, s.E, lrec l n E ps assign body b0 .busy j :: L2⟩ (roundQ l n E ps assign body b0 j Φ))) :
    YieldC P l vs (lrec l n E ps assign body b0 .ready j :: L) Φ := fun r o w hs => by
  obtain ⟨fn, tmps, h1, h2, hs1⟩ := lrec_open hs
  have hy := run_yield (P := P) (args := vs.toArray) hs1.own_at (by simpa using hsz)
  refine ⟨_, _, _, _, hy, roundIn_of_wpIn trivial ?_⟩
  have hfold : (ps.zip vs.toArray).foldl (fun tmps (t, a) => tmps.setIfInBounds t a) tmps = (ps.toList.zip vs).foldl (fun tmps (p : Tmp × Value) => tmps.setIfInBounds p.1 p.2) tmps := by
    rw [← Array.foldl_toList, Array.toList_zip]
  have hset := view_set (n := n) (ts := ps.toList.zip vs) (tm := tmps) (E := E) h1 h2 (fun p hp => hps _ (by have := (List.of_mem_zip hp).1; simpa using this))
  have hview : View n [] { tmps := (ps.zip vs.toArray).foldl (fun tmps (t, a) => tmps.setIfInBounds t a) tmps, defers := [] } (setE (ps.toList.zip vs) E) := by
    rw [hfold]; exact ⟨hset.1, rfl, hset.2⟩
  refine wpIn_mono (h o _ w ⟨hview, hs⟩) ?_
  rintro e a' w' ⟨s', ⟨rfl, L2, hg, hb⟩, hk⟩
  obtain ⟨fn', tmps', k1, k2, k3⟩ := lrec_open (hk.2.gives hg)
  refine ⟨_, run_beginRound k3.own_at rfl, wpIn_mono (hb o a' _ ⟨hk.1, (k3.put).gives (lrec_close k1 k2)⟩) ?_⟩
  rintro e a2 w2 ⟨s2, hq, hk2⟩
  cases e with
  | normal =>
    obtain ⟨L3, g, hΦ⟩ := hq
    obtain ⟨w3, hr, hs3⟩ := lrec_end (P := P) (jump := none) (hk2.2.gives g)
    exact ⟨_, w3, hr, _, _, rfl, hΦ, hs3⟩
  | ret =>
    obtain ⟨L3, g, hΦ⟩ := hq
    obtain ⟨w3, hr, hs3⟩ := lrec_end (P := P) (jump := some .ret) (hk2.2.gives g)
    exact ⟨_, w3, hr, _, _, rfl, hΦ, hs3⟩
  | exit id =>
    obtain ⟨L3, g, hΦ⟩ := hq
    obtain ⟨w3, hr, hs3⟩ := lrec_end (P := P) (jump := some (.exit id)) (hk2.2.gives g)
    exact ⟨_, w3, hr, _, _, rfl, hΦ, hs3⟩
  | goto t => exact hq.elim
  | panic c => exact hq.elim
  | outgrown => exact hq.elim
/-! ### The statement -/
/-- What comes behind the function that was ranged over. -/
def behind (r : Option Nat) (n : Nat) (P : Program) (D : List Deferred) (E : Env) (L2 : List HP) (Q : Exit → St → Prop) : Option Code → Prop
  | none => Q .normal ⟨D, E, L2⟩
  | some c => T r n P c ⟨D, E, L2⟩ Q
theorem T_rangeFunc {g : Operand} {f : FuncId} [hc : IsCall P f] {fs cs : List Value} {ps : Array Tmp} {assign body : Code} {Φ' : Nat → Nat → Value → List HP → Prop} (hg : ev E g = some (.func (.func f) fs.toArray cs.toArray))
    (spec : ∀ l b0, Fn P f (fs ++ [Value.func (.yield l) #[] #[]] ++ cs).toArray (lrec l n E ps assign body b0 .ready none :: own0 b0 :: L) (Φ' l b0))
    (h : ∀ l b0 v L', Φ' l b0 v L' → ∃ st j L2, st ≠ .busy ∧ Gives L' (lrec l n E ps assign body b0 st j :: L2) ∧ behind none n P (mark b0 :: D) E L2 Q j) :
    T none n P (.rangeFunc g ps assign body) ⟨D, E, L⟩ Q := fun o a w hh => by
  refine wpIn_rangeFunc fun fn _ => ?_
  have henter := run_enterLoop_outer (P := P) (w := w) fn a.tmps ps assign body
  have hs1 := (hh.2.alloc (.deferred (some []))).alloc (.loop { state := .ready, pending := none, fn := fn, tmps := a.tmps, params := ps, assign := assign, body := body, defers := w.heap.size })
  have hsz : (w.alloc (.deferred (some []))).heap.size = w.heap.size + 1 := World.size_alloc _ _
  rw [hsz] at hs1
  have hs2 := hs1.gives (lrec_close (ps := ps) (assign := assign) (body := body) (b0 := w.heap.size) (st := .ready) (j := none) hh.1.size hh.1.get)
  refine ⟨_, _, _, { target := .fn (.func f) cs.toArray, args := (fs ++ [Value.func (.yield (w.heap.size + 1)) #[] #[]]).toArray }, (w.alloc (.deferred (some []))).alloc (loopO fn a.tmps ps assign body w.heap.size .ready none), f, (fs ++ [Value.func (.yield (w.heap.size + 1)) #[] #[]] ++ cs).toArray, _, henter, ?_, fun _ _ => trivial, ?_, fun hx => by simp at hx, ((spec _ _).into hs2).mono ?_⟩
  · have hc1 : a.eval (.const (Value.func (.yield (w.heap.size + 1)) #[] #[])) = Value.func (.yield (w.heap.size + 1)) #[] #[] := rfl
    simp [resolve, hh.1.ev hg, Deferred.ofValue, hc1]
  · simp [invoke, hc.run]
  · rintro e w' ⟨v, L', rfl, hΦ, hs⟩
    obtain ⟨st, j, L2, hst, hgv, hb⟩ := h _ _ v L' hΦ
    obtain ⟨fn', tmps', k1, k2, k3⟩ := lrec_open (hs.gives hgv)
    refine ⟨_, _, run_endLoop k3.own_at hst, ?_⟩
    have hk : Holds n o ⟨mark w.heap.size :: D, E, L2⟩ { a with defers := [{ target := .collected w.heap.size, args := #[] }] ++ a.defers } (w'.putObj (w.heap.size + 1) (.loop { state := .exhausted, pending := j, fn := fn', tmps := tmps', params := ps, assign := assign, body := body, defers := w.heap.size })) :=
      ⟨⟨hh.1.size, by simp [mark, hh.1.defers], hh.1.get⟩, (k3.put).gives (Gives.drop _ _)⟩
    cases j with
    | none => exact ⟨_, hb, hk⟩
    | some c => exact hb o _ _ hk
/-! ### Functions that hold such a statement -/
def RetQM (P : Program) (fn : Func) (Φ : Value → List HP → Prop) (e : Exit) (s : St) : Prop :=
  ∃ (bs : List Nat) (L2 : List HP), s.D = bs.map mark ∧ Gives s.L (bs.map own0 ++ L2) ∧ RetQ P fn Φ e ⟨[], s.E, L2⟩
theorem leaves_marks {fn : Func} {R : Ending → World → Prop} {o : World} {L2 : List HP} {tmps : Array Value} : ∀ (bs : List Nat) (w : World), Sat o w (bs.map own0 ++ L2) → (∀ w', Sat o w' L2 → ∃ v, (results fn tmps).run P w' = .ok v w' ∧ R (.returned v) w') → LeavesInM (Fw none) 0 P fn tmps R (bs.map mark) .returning w
  | [], w, hs, hr => hr w hs
  | b :: bs, w, hs, hr => by
    refine ⟨by simp, .inl ⟨b, _, rfl, run_takeDeferred (Sat.own_at hs), ?_⟩⟩
    exact leaves_marks bs _ ((Sat.put (y := .deferred none) hs).gives (Gives.drop _ _)) hr
theorem Fn_enterM {f : FuncId} {fn : Func} {c : Code} {args : List Value} {E0 : Env} {Φ : Value → List HP → Prop} (hf : P.funcs[f]? = some fn) (hb : fn.body = some c) (hn : fn.ntmps = n) (hE : envO 0 args = some E0) (hl : Nat.ble args.length n = true)
    (h : T none n P c ⟨[], E0, L⟩ (RetQM P fn Φ)) : Fn P f args.toArray L Φ := fun W w hs => by
  refine callsIn_wide.1 (callsIn_of_wp_marks (F := Fence.wide) (n := 0) hf hb trivial ?_)
  have hsz : args.length ≤ n := by simpa using hl
  have hview : View n [] { tmps := args.toArray ++ Array.replicate (fn.ntmps - args.toArray.size) undef, defers := [] } E0 := by
    refine ⟨by simp [hn]; omega, rfl, fun j v hv => ?_⟩
    obtain ⟨_, h2⟩ := envO_look hE j v hv
    simp only [Nat.sub_zero] at h2
    have hj : j < args.length := (List.getElem?_eq_some_iff.1 h2).1
    simp [Array.getElem?_append, hj]
    simpa [List.getElem?_eq_getElem hj] using h2
  refine wpIn_mono (h W _ w ⟨hview, hs⟩) ?_
  rintro e a' w' ⟨s', ⟨bs, L2, hD, hg, q⟩, hk⟩
  have key : (∃ v L', Φ v L' ∧ ∀ n W a w, Holds n W ⟨[], s'.E, L2⟩ a w → Sat W w L' ∧ (results fn a.tmps).run P w = .ok v w) → LeavesInM Fence.wide 0 P fn a'.tmps (fun e w' => ∃ v L', e = .returned v ∧ Φ v L' ∧ Sat W w' L') a'.defers .returning w' := by
    rintro ⟨v, L', hΦ, hr⟩
    rw [hk.1.defers, hD]
    refine leaves_marks (L2 := L2) (o := W) bs w' (hk.2.gives hg) (fun w2 h2 => ?_)
    obtain ⟨k1, k2⟩ := hr n W { tmps := a'.tmps, defers := [] } w2 ⟨⟨hk.1.size, rfl, hk.1.get⟩, h2⟩
    exact ⟨v, k2, v, L', rfl, hΦ, k1⟩
  cases e <;> simp only [RetQ] at q
  case normal => exact key q.2
  case ret => exact key q.2
end
end Go.SL
