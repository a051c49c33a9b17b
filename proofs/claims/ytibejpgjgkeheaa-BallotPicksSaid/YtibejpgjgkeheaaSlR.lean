/- The rules of the logic: iterators, told by what they hand to a yield. Nothing in this text is about one program. -/
import Derived.Test.YtibejpgjgkeheaaSlQ
set_option linter.unusedVariables false
set_option linter.unusedSectionVars false
namespace Go.SL
open Go
/-- The consumer is handed the items, one by one, until it stops. -/
inductive Runs {τ α : Type} (step : τ → α → τ → Prop) (stop : τ → Bool) : τ → List α → τ → Prop
  | nil (s : τ) : Runs step stop s [] s
  | halt {s s' : τ} {x : α} {xs : List α} : step s x s' → stop s' = true → Runs step stop s (x :: xs) s'
  | go {s s' s2 : τ} {x : α} {xs : List α} : step s x s' → stop s' = false → Runs step stop s' xs s2 → Runs step stop s (x :: xs) s2
theorem Runs.snoc {τ α : Type} {step : τ → α → τ → Prop} {stop : τ → Bool} {s s1 s2 : τ} {xs : List α} {x : α} (h : Runs step stop s xs s1) (h0 : stop s = false) (h1 : stop s1 = false) (h2 : step s1 x s2) : Runs step stop s (xs ++ [x]) s2 := by
  induction h with
  | nil s =>
    cases e : stop s2 with
    | true => exact .halt h2 e
    | false => exact .go h2 e (.nil _)
  | halt a b => rw [b] at h1; cases h1
  | go a b c ih => exact .go a b (ih b h1 h2)
theorem Runs.more {τ α : Type} {step : τ → α → τ → Prop} {stop : τ → Bool} {s s1 : τ} {xs : List α} (h : Runs step stop s xs s1) (h1 : stop s1 = true) (h0 : stop s = false) (ys : List α) : Runs step stop s (xs ++ ys) s1 := by
  induction h with
  | nil s => rw [h1] at h0; cases h0
  | halt a b => exact .halt a b
  | go a b c ih => exact .go a b (ih h1 b)
/-- A consumer's resource, by its record's number. -/
def con (l : Nat) (p : HP) : HP := p
instance findK_con {L : List HP} {l : Nat} {p : HP} : FindK (con l p :: L) l (con l p) L := ⟨Gives.refl _⟩
def YieldsL (P : Program) (l : Nat) {τ α : Type} (C : τ → HP) (val : α → List Value) (ok : α → List HP → Prop) (step : τ → α → τ → Prop) (stop : τ → Bool) (cnt : τ → Nat) (N : Nat) : Prop :=
  ∀ s x Lx, stop s = false → ok x Lx → cnt s < N → YieldC P l (val x) (con l (C s) :: Lx) (fun v L' => ∃ s', step s x s' ∧ v = .bool (!stop s') ∧ L' = con l (C s') :: Lx)
abbrev YieldsC (P : Program) (l : Nat) {τ α : Type} (C : τ → HP) (val : α → List Value) (ok : α → Prop) (step : τ → α → τ → Prop) (stop : τ → Bool) (cnt : τ → Nat) (N : Nat) : Prop := YieldsL P l C val (fun x _ => ok x) step stop cnt N
/-- The function value hands some list of items, as seqs tells, to whatever consumer; what lies beside stays. -/
def IterL (P : Program) (c : Value) {α : Type} (val : α → List Value) (ok : α → List HP → Prop) (N : Nat) (Lf : List HP) (seqs : Bool → List α → Prop) : Prop :=
  ∃ f fs cs, c = .func (.func f) fs.toArray cs.toArray ∧ IsCall P f ∧ ∀ (τ : Type) (l : Nat) (C : τ → HP) (step : τ → α → τ → Prop) (stop : τ → Bool) (cnt : τ → Nat) (s0 : τ) (Lx : List HP), stop s0 = false → cnt s0 = 0 → (∀ s x s', step s x s' → cnt s' = cnt s + 1) → YieldsL P l C val ok step stop cnt N →
    Fn P f (fs ++ [Value.func (.yield l) #[] #[]] ++ cs).toArray (con l (C s0) :: (Lf ++ Lx)) (fun v L' => ∃ xs s', seqs (stop s') xs ∧ Runs step stop s0 xs s' ∧ L' = con l (C s') :: (Lf ++ Lx))
abbrev IterC (P : Program) (c : Value) {α : Type} (val : α → List Value) (ok : α → Prop) (N : Nat) (Lf : List HP) (seqs : Bool → List α → Prop) : Prop := IterL P c val (fun x _ => ok x) N Lf seqs
def unS (L : List HP) : HP := exH fun _ : Unit => L
theorem unS_close {L L' : List HP} : Gives (L ++ L') (unS L :: L') := exH_close (f := fun _ : Unit => L) ()
theorem unS_open {L L' : List HP} : Gives (unS L :: L') (L ++ L') := fun M h ⟨h1, h2, hd, l1, l2, ⟨_, hx⟩, hs⟩ => sep_append hx hs hd l1 l2
theorem Gives.perm {L L' : List HP} (h : L.Perm L') : Gives L L' := by
  induction h with
  | nil => exact Gives.refl _
  | cons x _ ih => exact Gives.cons x ih
  | swap x y l => exact Gives.swap _ _ _
  | trans _ _ h1 h2 => exact h1.trans h2
section
variable {n : Nat} {P : Program} {Q : Exit → St → Prop} {D : List Deferred} {E : Env} {L : List HP}
abbrev LS (σ : Type) := σ × Option Code
def lcon {σ : Type} (l n : Nat) (E : Env) (ps : Array Tmp) (assign body : Code) (b0 : Nat) (C : σ → List HP) (s : LS σ) : HP := unS (lrec l n E ps assign body b0 (if s.2.isNone then .ready else .done) s.2 :: C s.1)
theorem behind_none {r : Option Nat} {L2 : List HP} (h : Q .normal ⟨D, E, L2⟩) : behind r n P D E L2 Q none := h
/-- A range over an iterator: C tells the body's own resources by a state; the rest Lf stays as it is. -/
theorem T_range_iter {g : Operand} {c : Value} {α σ : Type} {val : α → List Value} {ok : α → List HP → Prop} {seqs : Bool → List α → Prop} {ps : Array Tmp} {assign body : Code} {N : Nat} {Lf Lr : List HP} (C : σ → List HP) (step : LS σ → α → LS σ → Prop) (cnt : σ → Nat) (s0 : σ)
    (hg : ev E g = some c) (hi : IterL P c val ok N Lf seqs) (hL : Gives L (C s0 ++ (Lf ++ Lr))) (hps : ∀ t ∈ ps, t < n) (hval : ∀ x, (val x).length = ps.size) (h0 : cnt s0 = 0) (hcnt : ∀ s x s', step s x s' → cnt s'.1 = cnt s.1 + 1)
    (hbody : ∀ l b0 s x Lx, ok x Lx → cnt s < N → T (some l) n P assign ⟨[], setE (ps.toList.zip (val x)) E, lrec l n E ps assign body b0 .ready none :: (C s ++ Lx)⟩ (fun e s1 => e = .normal ∧ ∃ L2, Gives s1.L (lrec l n E ps assign body b0 .ready none :: L2) ∧
      T (some l) n P body ⟨s1.D, s1.E, lrec l n E ps assign body b0 .busy none :: L2⟩ (fun e s2 => ∃ s' j, (match e with | .normal => j = none | .ret => j = some Code.ret | .exit id => j = some (Code.exit id) | _ => False) ∧ step (s, none) x (s', j) ∧ Gives s2.L (lrec l n E ps assign body b0 .busy none :: (C s' ++ Lx)))))
    (h : ∀ b0 xs (s : LS σ), seqs (!s.2.isNone) xs → Runs step (fun s => !s.2.isNone) (s0, none) xs s → behind none n P (mark b0 :: D) E (own0 b0 :: (C s.1 ++ (Lf ++ Lr))) Q s.2) :
    T none n P (.rangeFunc g ps assign body) ⟨D, E, L⟩ Q := by
  obtain ⟨f, fs, cs, rfl, hcall, hspec⟩ := hi
  have hy : ∀ l b0, YieldsL P l (fun s : LS σ => lcon l n E ps assign body b0 C s) val ok step (fun s => !s.2.isNone) (fun s => cnt s.1) N := by
    intro l b0 s x Lx hs hx hlt
    obtain ⟨s, j⟩ := s
    have hj : j = none := by cases j <;> simp at hs ⊢
    subst hj
    have key : YieldC P l (val x) (lrec l n E ps assign body b0 .ready none :: (C s ++ Lx)) (fun v L' => ∃ s' : LS σ, step (s, none) x s' ∧ v = .bool (!(!s'.2.isNone)) ∧ L' = lrec l n E ps assign body b0 (if s'.2.isNone then .ready else .done) s'.2 :: (C s'.1 ++ Lx)) := by
      refine YieldC_of (hval x) hps ((hbody l b0 s x Lx hx hlt).mono ?_)
      rintro e s1 ⟨rfl, L2, hg2, hb⟩
      refine ⟨rfl, L2, hg2, hb.mono ?_⟩
      rintro e s2 ⟨s', j, hj, hst, hg3⟩
      cases e with
      | normal => dsimp only at hj; subst hj; exact ⟨_, hg3, (s', none), hst, rfl, rfl⟩
      | ret => dsimp only at hj; subst hj; exact ⟨_, hg3, (s', some .ret), hst, rfl, rfl⟩
      | exit id => dsimp only at hj; subst hj; exact ⟨_, hg3, (s', some (.exit id)), hst, rfl, rfl⟩
      | goto t => exact hj.elim
      | panic c => exact hj.elim
      | outgrown => exact hj.elim
    intro r o w hw
    obtain ⟨f1, tm, as, bd, h1, h2⟩ := key r o w (hw.gives (unS_open (L := lrec l n E ps assign body b0 .ready none :: C s)))
    refine ⟨f1, tm, as, bd, h1, h2.mono ?_⟩
    rintro e w' ⟨v, L', rfl, ⟨s', k1, k2, rfl⟩, hw'⟩
    exact ⟨v, _, rfl, ⟨s', k1, k2, rfl⟩, hw'.gives (unS_close (L := lrec l n E ps assign body b0 (if s'.2.isNone then .ready else .done) s'.2 :: C s'.1))⟩
  refine T_rangeFunc (Φ' := fun l b0 v L' => ∃ xs s', seqs (!s'.2.isNone) xs ∧ Runs step (fun s => !s.2.isNone) (s0, none) xs s' ∧ L' = con l (lcon l n E ps assign body b0 C s') :: (Lf ++ own0 b0 :: Lr)) hg (fun l b0 => ?_) ?_
  · refine Fn_gives ?_ (hspec (LS σ) l (fun s => lcon l n E ps assign body b0 C s) step (fun s => !s.2.isNone) (fun s => cnt s.1) (s0, none) (own0 b0 :: Lr) rfl h0 hcnt (hy l b0))
    refine Gives.trans (Gives.cons _ (Gives.cons _ hL)) (Gives.trans (Gives.perm ?_) (unS_close (L := lrec l n E ps assign body b0 .ready none :: C s0) (L' := Lf ++ own0 b0 :: Lr)))
    show (lrec l n E ps assign body b0 .ready none :: own0 b0 :: (C s0 ++ (Lf ++ Lr))).Perm (lrec l n E ps assign body b0 .ready none :: (C s0 ++ (Lf ++ own0 b0 :: Lr)))
    refine List.Perm.cons _ ?_
    rw [← List.append_assoc, ← List.append_assoc]
    exact (List.perm_middle (l₁ := C s0 ++ Lf)).symm
  · rintro l b0 v L' ⟨xs, s', k1, k2, rfl⟩
    refine ⟨_, s'.2, own0 b0 :: (C s'.1 ++ (Lf ++ Lr)), ?_, (unS_open (L := lrec l n E ps assign body b0 (if s'.2.isNone then .ready else .done) s'.2 :: C s'.1)).trans (Gives.cons _ (Gives.perm ?_)), h b0 xs s' k1 k2⟩
    rotate_left
    · show (C s'.1 ++ (Lf ++ own0 b0 :: Lr)).Perm (own0 b0 :: (C s'.1 ++ (Lf ++ Lr)))
      rw [← List.append_assoc, ← List.append_assoc]; exact List.perm_middle
    split <;> simp
end
section
variable {P : Program} {fn : Func} {Φ : Value → List HP → Prop} {e : Exit} {E : Env} {L L2 : List HP} {b : Nat}
theorem retM0 (h : RetQ P fn Φ e ⟨[], E, L⟩) : RetQM P fn Φ e ⟨[], E, L⟩ := ⟨[], L, rfl, Gives.refl _, h⟩
theorem retM1 [hf : FindHP L (own0 b) L2] (h : RetQ P fn Φ e ⟨[], E, L2⟩) : RetQM P fn Φ e ⟨[mark b], E, L⟩ := ⟨[b], L2, rfl, hf.g, h⟩
theorem retM2 {b2 : Nat} {L3 : List HP} [hf : FindHP L (own0 b2) L2] [hg : FindHP L2 (own0 b) L3] (h : RetQ P fn Φ e ⟨[], E, L3⟩) : RetQM P fn Φ e ⟨[mark b2, mark b], E, L⟩ := ⟨[b2, b], L3, rfl, hf.g.trans (Gives.cons _ hg.g), h⟩
/-- The consumer that never stops. -/
theorem Runs.all {σ α : Type} {step : LS σ → α → LS σ → Prop} {s s' : LS σ} {xs : List α} (hn : ∀ s x s', step s x s' → s'.2 = none) (h : Runs step (fun s => !s.2.isNone) s xs s') (h0 : s.2 = none) : s'.2 = none := by
  induction h with
  | nil s => exact h0
  | halt a b => have := hn _ _ _ a; simp [this] at b
  | go a b c ih => exact ih (hn _ _ _ a)
end
/-! ### Ranges over functions in a loop: the marks gather -/
def owns (bs : List Nat) : HP := unS (bs.map own0)
theorem owns_nil {L : List HP} : Gives L (owns [] :: L) := unS_close (L := []) (L' := L)
theorem owns_cons {b : Nat} {bs : List Nat} {L : List HP} : Gives (own0 b :: owns bs :: L) (owns (b :: bs) :: L) :=
  (Gives.cons _ (unS_open (L := bs.map own0) (L' := L))).trans (unS_close (L := (b :: bs).map own0) (L' := L))
section
variable {r : Option Nat} {n : Nat} {P : Program} {Q : Exit → St → Prop} {D : List Deferred} {E kv : Env} {L L1 L2 : List HP} {fn : Func} {Φ : Value → List HP → Prop} {e : Exit}
theorem T_owns {c : Code} (b : Nat) (bs : List Nat) [h1 : FindHP L (own0 b) L1] [h2 : FindHP L1 (owns bs) L2] (h : T r n P c ⟨D, E, owns (b :: bs) :: L2⟩ Q) : T r n P c ⟨D, E, L⟩ Q := T_gives (h1.g.trans ((Gives.cons _ h2.g).trans owns_cons)) h
theorem retMs {bs : List Nat} [hf : FindHP L (owns bs) L2] (h : RetQ P fn Φ e ⟨[], E, L2⟩) : RetQM P fn Φ e ⟨bs.map mark, E, L⟩ := ⟨bs, L2, rfl, hf.g.trans unS_open, h⟩
theorem T_loopKD {c : Code} {σ : Type} (ks : List Nat) (I : σ → Prop) (U : σ → Env → Env) (M : σ → List HP) (Dd : σ → List Deferred) (μ : σ → Nat) (x0 : σ) (hk : keepO ks E = some kv) (h0 : I x0) (hg : Gives L (M x0)) (hD : D = Dd x0) (h1 : ∀ i v, look (U x0 kv) i = some v → look E i = some v)
    (round : ∀ x, I x → T r n P c ⟨Dd x, U x kv, M x⟩ (thenS (fun s' => ∃ y, I y ∧ μ y < μ x ∧ ∀ W a w, Holds n W s' a w → Holds n W ⟨Dd y, U y kv, M y⟩ a w) Q)) : T r n P (.loop c) ⟨D, E, L⟩ Q := by
  subst hD
  exact T_loop I (fun x => ⟨Dd x, U x kv, M x⟩) μ x0 h0 (holds_to h1 hg) round
end
end Go.SL
