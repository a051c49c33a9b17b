/- The rules of the logic: many resources under one name, taken out one at a time; slices of maps. Nothing in this text is about one program. -/
import Derived.Test.YtibejpgjgkeheaaSlR
import Derived.Test.YtibejpgjgkeheaaSlV
set_option linter.unusedVariables false
namespace Go.SL
open Go
def hole : HP := pure True
def allH (ps : List HP) : HP := unS ps
theorem allH_take {ps : List HP} {i : Nat} {p : HP} {L : List HP} (h : ps[i]? = some p) : Gives (allH ps :: L) (p :: allH (ps.set i hole) :: L) := by
  obtain ⟨hi, he⟩ := List.getElem?_eq_some_iff.1 h
  have e1 : ps = ps.take i ++ p :: ps.drop (i + 1) := by
    conv => lhs; rw [← List.take_append_drop i ps, List.drop_eq_getElem_cons hi, he]
  have e2 : ps.set i hole = ps.take i ++ hole :: ps.drop (i + 1) := List.set_eq_take_append_cons_drop.trans (by rw [if_pos hi])
  refine (unS_open (L := ps) (L' := L)).trans ?_
  refine Gives.trans (B := p :: ((ps.take i ++ ps.drop (i + 1)) ++ L)) ?_ (Gives.cons p ?_)
  · conv => lhs; rw [e1]
    refine Gives.perm ?_
    rw [List.append_assoc, List.append_assoc, List.cons_append]
    exact List.perm_middle
  · refine (Gives.pure_intro (p := True) trivial).trans ?_
    refine Gives.trans (B := (ps.take i ++ hole :: ps.drop (i + 1)) ++ L) ?_ (by rw [← e2]; exact unS_close (L := ps.set i hole) (L' := L))
    refine Gives.perm ?_
    rw [List.append_assoc, List.append_assoc, List.cons_append]
    exact List.perm_middle.symm
theorem allH_put {ps : List HP} {i : Nat} {q : HP} {L : List HP} (hi : i < ps.length) : Gives (q :: allH (ps.set i hole) :: L) (allH (ps.set i q) :: L) := by
  have e2 : ∀ x, ps.set i x = ps.take i ++ x :: ps.drop (i + 1) := fun x => List.set_eq_take_append_cons_drop.trans (by rw [if_pos hi])
  refine (Gives.cons q (unS_open (L := ps.set i hole) (L' := L))).trans ?_
  refine Gives.trans (B := ps.set i q ++ L) ?_ (unS_close (L := ps.set i q) (L' := L))
  rw [e2, e2]
  refine Gives.trans (B := hole :: (q :: (ps.take i ++ (ps.drop (i + 1) ++ L)))) (Gives.perm ?_) ((Gives.drop _ _).trans (Gives.perm ?_))
  · rw [List.append_assoc, List.cons_append]
    refine List.Perm.trans (List.Perm.cons q List.perm_middle) (List.Perm.swap _ _ _)
  · rw [List.append_assoc, List.cons_append]
    exact List.perm_middle.symm
/-- A map, or none. -/
def mapOR : Rep (Option Nat) := ⟨1, fun _ b cs => cs = [.map b], fun _ h => h, fun h => by simp [h], fun h v hv => by rw [h] at hv; simp at hv; subst hv; rfl⟩
instance : RepF mapOR (fun b => [.map b]) := ⟨fun _ _ _ h => h⟩
theorem mapOR_rep (b : Option Nat) : ∀ M, mapOR.rep M b [.map b] := fun _ => rfl
/-! ### Iterators that share a resource with their consumer -/
def shr (Lsh : List HP) (p : HP) : HP := unS (p :: Lsh)
theorem shr_open {Lsh : List HP} {p : HP} {L : List HP} : Gives (shr Lsh p :: L) (p :: (Lsh ++ L)) := unS_open (L := p :: Lsh) (L' := L)
theorem shr_close {Lsh : List HP} {p : HP} {L : List HP} : Gives (p :: (Lsh ++ L)) (shr Lsh p :: L) := unS_close (L := p :: Lsh) (L' := L)
def IterS (P : Program) (c : Value) {α : Type} (val : α → List Value) (ok : α → List HP → Prop) (N : Nat) (Lsh Lf : List HP) (seqs : Bool → List α → Prop) : Prop :=
  ∃ f fs cs, c = .func (.func f) fs.toArray cs.toArray ∧ IsCall P f ∧ ∀ (τ : Type) (l : Nat) (C : τ → HP) (step : τ → α → τ → Prop) (stop : τ → Bool) (cnt : τ → Nat) (s0 : τ) (Lx : List HP), stop s0 = false → cnt s0 = 0 → (∀ s x s', step s x s' → cnt s' = cnt s + 1) → YieldsL P l (fun s => shr Lsh (C s)) val ok step stop cnt N →
    Fn P f (fs ++ [Value.func (.yield l) #[] #[]] ++ cs).toArray (con l (shr Lsh (C s0)) :: (Lf ++ Lx)) (fun v L' => ∃ xs s', seqs (stop s') xs ∧ Runs step stop s0 xs s' ∧ L' = con l (shr Lsh (C s')) :: (Lf ++ Lx))
section
variable {n : Nat} {P : Program} {Q : Exit → St → Prop} {D : List Deferred} {E : Env} {L : List HP}
theorem T_range_iterS {g : Operand} {c : Value} {α σ : Type} {val : α → List Value} {ok : α → List HP → Prop} {seqs : Bool → List α → Prop} {ps : Array Tmp} {assign body : Code} {N : Nat} {Lsh Lf Lr : List HP} (C : σ → List HP) (step : LS σ → α → LS σ → Prop) (cnt : σ → Nat) (s0 : σ)
    (hg : ev E g = some c) (hi : IterS P c val ok N Lsh Lf seqs) (hL : Gives L (C s0 ++ (Lsh ++ (Lf ++ Lr)))) (hps : ∀ t ∈ ps, t < n) (hval : ∀ x, (val x).length = ps.size) (h0 : cnt s0 = 0) (hcnt : ∀ s x s', step s x s' → cnt s'.1 = cnt s.1 + 1)
    (hbody : ∀ l b0 s x Lx, ok x Lx → cnt s < N → T (some l) n P assign ⟨[], setE (ps.toList.zip (val x)) E, lrec l n E ps assign body b0 .ready none :: (C s ++ (Lsh ++ Lx))⟩ (fun e s1 => e = .normal ∧ ∃ L2, Gives s1.L (lrec l n E ps assign body b0 .ready none :: L2) ∧
      T (some l) n P body ⟨s1.D, s1.E, lrec l n E ps assign body b0 .busy none :: L2⟩ (fun e s2 => ∃ s' j, (match e with | .normal => j = none | .ret => j = some Code.ret | .exit id => j = some (Code.exit id) | _ => False) ∧ step (s, none) x (s', j) ∧ Gives s2.L (lrec l n E ps assign body b0 .busy none :: (C s' ++ (Lsh ++ Lx))))))
    (h : ∀ b0 xs (s : LS σ), seqs (!s.2.isNone) xs → Runs step (fun s => !s.2.isNone) (s0, none) xs s → behind none n P (mark b0 :: D) E (own0 b0 :: (C s.1 ++ (Lsh ++ (Lf ++ Lr)))) Q s.2) :
    T none n P (.rangeFunc g ps assign body) ⟨D, E, L⟩ Q := by
  obtain ⟨f, fs, cs, rfl, hcall, hspec⟩ := hi
  have hopen : ∀ l b0 (st : LoopState) (j : Option Code) (Cs Lx : List HP), Gives (con l (shr Lsh (unS (lrec l n E ps assign body b0 st j :: Cs))) :: Lx) (lrec l n E ps assign body b0 st j :: (Cs ++ (Lsh ++ Lx))) := fun l b0 st j Cs Lx => shr_open.trans (unS_open (L := lrec l n E ps assign body b0 st j :: Cs) (L' := Lsh ++ Lx))
  have hclose : ∀ l b0 (st : LoopState) (j : Option Code) (Cs Lx : List HP), Gives (lrec l n E ps assign body b0 st j :: (Cs ++ (Lsh ++ Lx))) (con l (shr Lsh (unS (lrec l n E ps assign body b0 st j :: Cs))) :: Lx) := fun l b0 st j Cs Lx => (unS_close (L := lrec l n E ps assign body b0 st j :: Cs) (L' := Lsh ++ Lx)).trans shr_close
  have hy : ∀ l b0, YieldsL P l (fun s : LS σ => shr Lsh (lcon l n E ps assign body b0 C s)) val ok step (fun s => !s.2.isNone) (fun s => cnt s.1) N := by
    intro l b0 s x Lx hs hx hlt
    obtain ⟨s, j⟩ := s
    have hj : j = none := by cases j <;> simp at hs ⊢
    subst hj
    have key : YieldC P l (val x) (lrec l n E ps assign body b0 .ready none :: (C s ++ (Lsh ++ Lx))) (fun v L' => ∃ s' : LS σ, step (s, none) x s' ∧ v = .bool (!(!s'.2.isNone)) ∧ L' = lrec l n E ps assign body b0 (if s'.2.isNone then .ready else .done) s'.2 :: (C s'.1 ++ (Lsh ++ Lx))) := by
      refine YieldC_of (hval x) hps ((hbody l b0 s x Lx hx hlt).mono ?_)
      rintro e s1 ⟨rfl, L2, hg2, hb⟩
      refine ⟨rfl, L2, hg2, hb.mono ?_⟩
      rintro e s2 ⟨s', j, hj, hst, hg3⟩
      cases e with
      | normal => dsimp only at hj; subst hj; exact ⟨_, hg3, (s', none), hst, rfl, rfl⟩
      | ret => dsimp only at hj; subst hj; exact ⟨_, hg3, (s', some .ret), hst, rfl, rfl⟩
      | exit id => dsimp only at hj; subst hj; exact ⟨_, hg3, (s', some (.exit id)), hst, rfl, rfl⟩
      | goto t => exact hj.elim
      | panic c => exact hj.elim
      | outgrown => exact hj.elim
    intro r o w hw
    obtain ⟨f1, tm, as, bd, h1, h2⟩ := key r o w (hw.gives (hopen l b0 .ready none (C s) Lx))
    refine ⟨f1, tm, as, bd, h1, h2.mono ?_⟩
    rintro e w' ⟨v, L', rfl, ⟨s', k1, k2, rfl⟩, hw'⟩
    exact ⟨v, _, rfl, ⟨s', k1, k2, rfl⟩, hw'.gives (hclose l b0 (if s'.2.isNone then .ready else .done) s'.2 (C s'.1) Lx)⟩
  refine T_rangeFunc (Φ' := fun l b0 v L' => ∃ xs s', seqs (!s'.2.isNone) xs ∧ Runs step (fun s => !s.2.isNone) (s0, none) xs s' ∧ L' = con l (shr Lsh (lcon l n E ps assign body b0 C s')) :: (Lf ++ own0 b0 :: Lr)) hg (fun l b0 => ?_) ?_
  · refine Fn_gives ?_ (hspec (LS σ) l (fun s => lcon l n E ps assign body b0 C s) step (fun s => !s.2.isNone) (fun s => cnt s.1) (s0, none) (own0 b0 :: Lr) rfl h0 hcnt (hy l b0))
    refine Gives.trans (Gives.cons _ (Gives.cons _ hL)) (Gives.trans (Gives.perm ?_) (hclose l b0 .ready none (C s0) (Lf ++ own0 b0 :: Lr)))
    refine List.Perm.cons _ ?_
    refine List.Perm.trans ?_ (List.Perm.append_left _ (List.Perm.append_left _ List.perm_middle.symm))
    rw [← List.append_assoc (C s0) Lsh (Lf ++ Lr), ← List.append_assoc (C s0) Lsh (own0 b0 :: (Lf ++ Lr))]
    exact List.perm_middle.symm
  · rintro l b0 v L' ⟨xs, s', k1, k2, rfl⟩
    refine ⟨_, s'.2, own0 b0 :: (C s'.1 ++ (Lsh ++ (Lf ++ Lr))), ?_, (hopen l b0 (if s'.2.isNone then .ready else .done) s'.2 (C s'.1) (Lf ++ own0 b0 :: Lr)).trans (Gives.cons _ (Gives.perm ?_)), h b0 xs s' k1 k2⟩
    rotate_left
    · refine List.Perm.trans (List.Perm.append_left _ (List.Perm.append_left _ List.perm_middle)) ?_
      rw [← List.append_assoc (C s'.1) Lsh (Lf ++ Lr), ← List.append_assoc (C s'.1) Lsh (own0 b0 :: (Lf ++ Lr))]
      exact List.perm_middle
    split <;> simp
end
section
variable {r : Option Nat} {n : Nat} {P : Program} {ops : Array Oper} {rest : List Oper} {K : St → Prop} {Q : Exit → St → Prop} {D : List Deferred} {E : Env} {L L1 L2 : List HP} {p q : HP} {l : Nat}
theorem TL_shr (l : Nat) (p q : HP) [h1 : FindHP L q L1] [h2 : FindHP L1 p L2] (h : TL r n P ops rest ⟨D, E, con l (shr [p] q) :: L2⟩ K) : TL r n P ops rest ⟨D, E, L⟩ K := TL_gives (h1.g.trans ((Gives.cons _ h2.g).trans (shr_close (Lsh := [p]) (p := q)))) h
theorem TL_unshr (h : TL r n P ops rest ⟨D, E, q :: p :: L⟩ K) : TL r n P ops rest ⟨D, E, con l (shr [p] q) :: L⟩ K := TL_gives (shr_open (Lsh := [p]) (p := q)) h
theorem T_unshr {c : Code} (h : T r n P c ⟨D, E, q :: p :: L⟩ Q) : T r n P c ⟨D, E, con l (shr [p] q) :: L⟩ Q := T_gives (shr_open (Lsh := [p]) (p := q)) h
theorem shr_gives {l : Nat} {p q : HP} [h1 : FindHP L q L1] [h2 : FindHP L1 p L2] : Gives L (con l (shr [p] q) :: L2) := h1.g.trans ((Gives.cons _ h2.g).trans (shr_close (Lsh := [p]) (p := q)))
end
theorem SlN.cap {α : Type} {R : Rep α} {A : Option Addr} {c : Nat} {xs : List α} {L : List HP} (h : SlN L R A c xs) : SlN L R A xs.length xs := fun M k N hd hs hM hk => let ⟨_, b, e⟩ := h M k N hd hs hM hk; ⟨Nat.le_refl _, b, e⟩
theorem len_one {l : List Value} (h : l.length = 1) : ∃ v, l = [v] := by
  match l, h with
  | [v], _ => exact ⟨v, rfl⟩
theorem unS_snoc {β : Type} {f : β → HP} {bs : List β} {b : β} {L : List HP} : Gives (f b :: unS (bs.map f) :: L) (unS ((bs ++ [b]).map f) :: L) := by
  refine (Gives.cons (f b) (unS_open (L := bs.map f) (L' := L))).trans (Gives.trans (Gives.perm ?_) (unS_close (L := (bs ++ [b]).map f) (L' := L)))
  rw [List.map_append, List.append_assoc]
  exact List.perm_middle.symm
theorem Y_load_n0 {P : Program} {E : Env} {L : List HP} {ty : TypeId} {α : Type} {R : Rep α} {c : Nat} {xs : List α} {x : Operand} {t : TypeId} {g j q : Nat} {u : α} {v : Value} {f : α → List Value} [hf : RepF R f] [ht : TyAgg P t false] (hx : ev E x = some (.pointer (some ⟨g, j * R.sz + q, none⟩))) (hk : SlN L R (some ⟨g, 0, none⟩) c xs) (hu : xs[j]? = some u) (hv : cellN (f u) q = some v) : Yl P E L (.load t x) ty v :=
  Y_load_n (o := 0) (by rw [Nat.zero_add]; exact hx) hk hu hv
theorem omap_reps {κ α : Type} [DecidableEq κ] {K : KeyT κ} {R : Rep α} {ag : Bool} {b : Nat} {m : List (κ × α)} {L : List HP} : Knows (omap K R ag b m :: L) (fun M => ∀ p ∈ m, ∃ cs, R.rep M p.2 cs) := fun M h ⟨h1, h2, hd, l1, l2, ⟨es, c, l, q1, q2, q3, q4⟩, hs⟩ p hp => by
  obtain ⟨e, he, _, _, cs, hr, _⟩ := q4.mem' (q3.mem_iff.2 hp)
  exact ⟨cs, hr⟩
theorem behind_two {r : Option Nat} {n : Nat} {P : Program} {Q : Exit → St → Prop} {D : List Deferred} {E : Env} {L : List HP} {id : Nat} {j : Option Code} (h : j = none ∨ j = some (.exit id)) (h1 : j = none → Q .normal ⟨D, E, L⟩) (h2 : j = some (.exit id) → Q (.exit id) ⟨D, E, L⟩) : behind r n P D E L Q j := by
  rcases h with h | h
  · have := h1 h; subst h; exact this
  · have := h2 h; subst h; exact T_exit this
end Go.SL
