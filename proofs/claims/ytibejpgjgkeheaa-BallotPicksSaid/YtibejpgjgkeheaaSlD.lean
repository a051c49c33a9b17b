/- The rules of the logic: a region whose order Go leaves open. Operations that only reckon or read ('floats') are taken as soon as they can be; the others ('anchors') stand in one order. Nothing in this text is about one program. -/
import Derived.Test.YtibejpgjgkeheaaSlC
set_option linter.unusedVariables false
set_option linter.unusedSimpArgs false
namespace Go.SL
open Go

def depsOf (o : Oper) : List Nat := (o.after.toList.filter (Region.binds .any)).map (·.on)
def isCallOp : Op → Bool
  | .call { callee := .builtin _, .. } => false
  | .call _ => true
  | _ => false
def maskOf (B : List Nat) : List Nat → Nat
  | [] => 0
  | e :: r => Nat.lor (Nat.lor (2 ^ e) (B.getD e 0)) (maskOf B r)
/-- With the edges of X (from, to) besides. -/
def depsX (X : List (Nat × Nat)) (j : Nat) (o : Oper) : List Nat := depsOf o ++ (X.filter fun e => Nat.beq e.2 j).map (·.1)
def masksOk (X : List (Nat × Nat)) (B : List Nat) : List Oper → Nat → Bool
  | [], _ => true
  | o :: r, j => (B.getD j 0 == maskOf B (depsX X j o)) && (depsOf o).all (fun e => Nat.blt e j) && plainOp o.op && masksOk X B r (j + 1)
def orderOk (X : List (Nat × Nat)) (ops : Array Oper) (B tl : List Nat) : List Nat → List (Nat × Bool) → Bool
  | _, [] => true
  | done, (i, fl) :: π => (match ops[i]? with
      | none => false
      | some o => (depsX X i o).all (fun e => done.contains e) && (if fl then tl.all (fun t => (B.getD t 0).testBit i) && π.all (fun j => (B.getD j.1 0).testBit i || (match ops[j.1]? with | some oj => o.apart ops oj | none => false)) else (!tl.contains i || π.all (fun j => !j.2)) && π.all (fun j => (B.getD j.1 0).testBit i))) && orderOk X ops B tl (i :: done) π
def nodupB : List Nat → Bool
  | [] => true
  | x :: r => !r.contains x && nodupB r
def regionOk (X : List (Nat × Nat)) (l : List Oper) (B tl : List Nat) (π : List (Nat × Bool)) : Bool :=
  masksOk X B l 0 && X.all (fun e => Nat.blt e.1 l.length) && orderOk X l.toArray B tl [] π && (List.range l.length).all (fun i => (π.map (·.1)).contains i) && (π.length == l.length) && nodupB (π.map (·.1))

/-! ### What the marks mean -/
theorem maskOf_bit {B : List Nat} : ∀ {es : List Nat} {i : Nat}, (maskOf B es).testBit i = true → ∃ e ∈ es, e = i ∨ (B.getD e 0).testBit i = true
  | [], i, h => by simp [maskOf] at h
  | e :: r, i, h => by
    simp only [maskOf] at h
    have h' : ((2 ^ e ||| B.getD e 0) ||| maskOf B r).testBit i = true := h
    rw [Nat.testBit_or, Nat.testBit_or, Bool.or_eq_true, Bool.or_eq_true] at h'
    rcases h' with (h' | h') | h'
    · refine ⟨e, List.mem_cons_self, .inl ?_⟩
      rw [Nat.testBit_two_pow] at h'
      simpa using h'
    · exact ⟨e, List.mem_cons_self, .inr h'⟩
    · obtain ⟨e', h1, h2⟩ := maskOf_bit h'
      exact ⟨e', List.mem_cons_of_mem _ h1, h2⟩
theorem masksOk_at {X : List (Nat × Nat)} {B : List Nat} : ∀ {l : List Oper} {k : Nat}, masksOk X B l k = true → ∀ {j : Nat} {o : Oper}, l[j]? = some o → B.getD (k + j) 0 = maskOf B (depsX X (k + j) o) ∧ (∀ e ∈ depsOf o, e < k + j) ∧ plainOp o.op = true
  | [], _, _, j, o, h => by simp at h
  | x :: r, k, h, 0, o, ho => by
    simp only [masksOk, Bool.and_eq_true, beq_iff_eq, List.all_eq_true] at h
    simp at ho
    subst ho
    exact ⟨h.1.1.1, fun e he => by simpa using h.1.1.2 e he, h.1.2⟩
  | x :: r, k, h, j + 1, o, ho => by
    simp only [masksOk, Bool.and_eq_true] at h
    have := masksOk_at h.2 (j := j) (by simpa using ho)
    rw [show k + (j + 1) = k + 1 + j by omega]
    exact this
/-- A schedule that keeps to the edges. -/
def VS (X : List (Nat × Nat)) (ops : Array Oper) : (Nat → Prop) → List Nat → Prop
  | _, [] => True
  | done, j :: r => (∀ o, ops[j]? = some o → ∀ e ∈ depsX X j o, done e) ∧ VS X ops (fun i => i = j ∨ done i) r
theorem deps_lt {X : List (Nat × Nat)} {B : List Nat} {l : List Oper} (hm : masksOk X B l 0 = true) (hX : ∀ e ∈ X, e.1 < l.length) {j : Nat} {o : Oper} (ho : l[j]? = some o) : ∀ e ∈ depsX X j o, e < l.length := fun e he => by
  have hj := (List.getElem?_eq_some_iff.1 ho).1
  rcases List.mem_append.1 he with he | he
  · have := (masksOk_at hm ho).2.1 e he
    omega
  · obtain ⟨x, hx, rfl⟩ := List.mem_map.1 he
    exact hX x (List.mem_filter.1 hx).1
theorem VS.mono {X : List (Nat × Nat)} {ops : Array Oper} : ∀ {l : List Nat} {p q : Nat → Prop}, (∀ i, p i → q i) → VS X ops p l → VS X ops q l
  | [], _, _, _, _ => trivial
  | j :: r, p, q, h, ⟨h1, h2⟩ => ⟨fun o ho e he => h _ (h1 o ho e he), VS.mono (fun i hi => hi.imp id (h i)) h2⟩
/-- Number i may be taken out to the front. -/
theorem VS.take {X : List (Nat × Nat)} {ops : Array Oper} : ∀ {s1 s2 : List Nat} {i : Nat} {p : Nat → Prop}, VS X ops p (s1 ++ i :: s2) → VS X ops (fun k => k = i ∨ p k) (s1 ++ s2)
  | [], s2, i, p, h => h.2
  | j :: s1, s2, i, p, h => ⟨fun o ho e he => .inr (h.1 o ho e he), (VS.take h.2).mono fun k hk => by
      rcases hk with h | h | h
      · exact .inr (.inl h)
      · exact .inl h
      · exact .inr (.inr h)⟩
/-- What i is an ancestor of comes behind i. -/
theorem VS.anc {X : List (Nat × Nat)} {l : List Oper} {B : List Nat} (hm : masksOk X B l 0 = true) (hX : ∀ e ∈ X, e.1 < l.length) {s : List Nat} {i : Nat} {p : Nat → Prop} (hv : VS X l.toArray p s) (hi : i ∉ s) (hp : ¬ p i) (hpc : ∀ j, p j → ∀ o, l[j]? = some o → (B.getD j 0).testBit i = false) : ∀ j ∈ s, ∀ o, l[j]? = some o → (B.getD j 0).testBit i = false := by
  induction s generalizing p with
  | nil => intro j hj; cases hj
  | cons k r ih =>
    have hk : ∀ o, l[k]? = some o → (B.getD k 0).testBit i = false := by
      intro o ho
      obtain ⟨hB, hlt, _⟩ := masksOk_at hm ho
      cases hb : (B.getD k 0).testBit i with
      | false => rfl
      | true =>
        rw [Nat.zero_add] at hB
        rw [hB] at hb
        obtain ⟨e, he, h⟩ := maskOf_bit hb
        have hdone := hv.1 o (by simpa using ho) e he
        rcases h with rfl | h
        · exact absurd hdone hp
        · have hel : e < l.length := deps_lt hm hX ho e (by simpa using he)
          rw [hpc e hdone _ (List.getElem?_eq_getElem hel)] at h
          cases h
    intro j hj o ho
    rcases List.mem_cons.1 hj with rfl | hj
    · exact hk o ho
    · refine ih hv.2 (fun h => hi (List.mem_cons_of_mem _ h)) (fun h => ?_) (fun m hm' o' ho' => ?_) j hj o ho
      · rcases h with h | h
        · exact hi (by rw [h]; exact List.mem_cons_self)
        · exact hp h
      · rcases hm' with rfl | hm'
        · exact hk o' ho'
        · exact hpc m hm' o' ho'

theorem orderOk_mem {X : List (Nat × Nat)} {ops : Array Oper} {B tl : List Nat} : ∀ {π : List (Nat × Bool)} {done : List Nat}, orderOk X ops B tl done π = true → ∀ j ∈ π.map (·.1), ∃ o, ops[j]? = some o
  | [], _, _, j, hj => by cases hj
  | (i, fl) :: π, done, h, j, hj => by
    simp only [orderOk, Bool.and_eq_true] at h
    simp only [List.map_cons, List.mem_cons] at hj
    rcases hj with rfl | hj
    · cases ho : ops[j]? with
      | none => rw [ho] at h; simp at h
      | some o => exact ⟨o, rfl⟩
    · exact orderOk_mem h.2 j hj
theorem nodupB_eq : ∀ {l : List Nat}, nodupB l = true → l.Nodup
  | [], _ => List.nodup_nil
  | x :: r, h => by
    simp only [nodupB, Bool.and_eq_true] at h
    exact List.nodup_cons.2 ⟨by simpa using h.1, nodupB_eq h.2⟩

/-! ### The judgement -/
section
variable {r : Option Nat} {n : Nat} {P : Program} {ops : Array Oper} {D : List Deferred} {E : Env} {L L' Fl : List HP} {tl : List Nat}

/-- What becomes of an operation that only reckons: it comes to v, or its guard is false. -/
def FloatAt (P : Program) (ops : Array Oper) (E : Env) (Fl : List HP) (o : Oper) (v : Value) : Prop :=
  (o.guard = none ∧ Yl P E Fl o.op o.type v) ∨
  (∃ j want g b, o.guard = some (j, want) ∧ (ops[j]?).bind (·.dst) = some g ∧ look E g = some (.bool b) ∧ ((b = want ∧ Yl P E Fl o.op o.type v) ∨ ((b == want) = false ∧ v = undef))) ∨
  (∃ j want g, o.guard = some (j, want) ∧ (ops[j]?).bind (·.dst) = some g ∧ look E g = some undef ∧ v = undef)
theorem wanted_undef {o : Oper} {j g : Nat} {want : Bool} {n : Nat} {D : List Deferred} {E : Env} {ops : Array Oper} {a : Act} (hg : o.guard = some (j, want)) (hgs : (ops[j]?).bind (·.dst) = some g) (hl : look E g = some undef) (hv : View n D a E) : Region.wanted o (yielded ops a.tmps) = false := by
  simp only [Region.wanted, yielded, hg, hgs, Option.bind_some, hv.get g _ hl]
  rfl
def TF (r : Option Nat) (n : Nat) (P : Program) (ops : Array Oper) (tl : List Nat) (Fl : List HP) : List (Nat × Bool) → St → (St → Prop) → Prop
  | [], s, K => ∃ s', (∀ W a w, Holds n W s a w → Holds n W s' a w) ∧ K s'
  | (i, true) :: π, s, K => ∃ o d v, ops[i]? = some o ∧ o.dst = some d ∧ Nat.blt d n = true ∧ FloatAt P ops s.E Fl o v ∧ TF r n P ops tl Fl π ⟨s.D, (d, v) :: s.E, s.L⟩ K
  | (i, false) :: π, s, K => ∃ o, ops[i]? = some o ∧ TL r n P ops [o] s (fun s' => (tl.contains i = true ∨ Gives s'.L Fl) ∧ TF r n P ops tl Fl π s' K)

def wpF (r : Option Nat) (n : Nat) (P : Program) (ops : Array Oper) (tl : List Nat) (Fl : List HP) (W : World) (K : St → Prop) : List Nat → Act → World → Prop
  | [], a, w => ∃ s', K s' ∧ Holds n W s' a w
  | i :: s, a, w => wpOpIn (Fw r) 0 P ops (fun _ _ _ => False) i (fun a' w' => (tl.contains i = false → Sat W w' Fl) ∧ wpF r n P ops tl Fl W K s a' w') a w

theorem wpOpIn_out {Q : Exit → Act → World → Prop} {i : Nat} {K K' : Act → World → Prop} (h : ∀ a w, K a w → K' a w) {a : Act} {w : World} (hh : wpOpIn (Fw r) 0 P ops (fun _ _ _ => False) i K a w) : wpOpIn (Fw r) 0 P ops Q i K' a w := by
  unfold wpOpIn at *
  split
  · rename_i ho; simp only [ho] at hh; exact h _ _ hh
  · rename_i o ho
    simp only [ho] at hh
    split
    · rename_i hw; simp only [hw, if_true] at hh; exact ⟨hh.1, uponIn_mono h (fun _ _ _ hf => hf.elim) (fun ⟨_, _, hf⟩ => hf.elim) _ hh.2⟩
    · rename_i hw; simp only [hw] at hh; exact ⟨hh.1, h _ _ hh.2⟩
theorem wpF_ops {W : World} {K : St → Prop} {Q : Exit → Act → World → Prop} (hq : ∀ a w s', K s' → Holds n W s' a w → Q .normal a w) : ∀ (s : List Nat) (a : Act) (w : World), wpF r n P ops tl Fl W K s a w → wpOpsIn (Fw r) 0 P ops Q s a w
  | [], a, w, ⟨s', hk, hh⟩ => hq a w s' hk hh
  | i :: s, a, w, h => by
    rw [wpOpsIn_cons]
    exact wpOpIn_out (fun a w h => wpF_ops hq s a w h.2) h

theorem float_run {o : Oper} {v : Value} {W : World} (hf : FloatAt P ops E Fl o v) {a : Act} (hv : View n D a E) {K : Act → World → Prop} {i : Nat} (hi : ops[i]? = some o) (hnd : plainOp o.op = true) {w : World} (hs : Sat W w Fl) (hk : K (a.put o.dst v) w) :
    wpOpIn (Fw r) 0 P ops (fun _ _ _ => False) i K a w := by
  unfold wpOpIn
  simp only [hi]
  have hd : ∀ c, o.op ≠ .defer c := fun c e => by rw [e] at hnd; cases hnd
  have run : Yl P E Fl o.op o.type v → o.wpIn (Fw r) 0 P a w K (fun _ _ _ => False) := fun hy => by
    refine ⟨fun _ _ => trivial, ?_⟩
    rw [Oper.semAt_eq _ _ _ hd]
    have := hy n D W a w o.dst o.pos o.after o.guard hv hs
    have e : (⟨o.dst, o.op, o.type, o.pos, o.after, o.guard⟩ : Oper) = o := by cases o; rfl
    rw [e] at this
    rw [this]
    exact hk
  rcases hf with ⟨hg, hy⟩ | ⟨j, want, g, b, hg, hgs, hl, h⟩ | ⟨j, want, g, hg, hgs, hl, rfl⟩
  rotate_left 2
  · rw [if_neg (by rw [wanted_undef hg hgs hl hv]; simp)]
    exact ⟨fun _ _ => trivial, hk⟩
  · rw [if_pos (by simp [Region.wanted, hg])]
    exact run hy
  · have hy' : yielded ops a.tmps j = some b := by simp [yielded, hgs, hv.get g _ hl]
    rcases h with ⟨rfl, hy⟩ | ⟨hb, rfl⟩
    · rw [if_pos (by simp [Region.wanted, hg, hy'])]
      exact run hy
    · rw [if_neg (by simp only [Region.wanted, hg, hy']; simpa using hb)]
      exact ⟨fun _ _ => trivial, hk⟩

/-- What a float needs of the slots. -/
def Same (ops : Array Oper) (o : Oper) (a a' : Act) : Prop := execOp a'.eval o = execOp a.eval o ∧ Region.wanted o (yielded ops a'.tmps) = Region.wanted o (yielded ops a.tmps)
/-- At whatever world where Fl holds: the float's own step. -/
def FloatRuns (r : Option Nat) (P : Program) (ops : Array Oper) (Fl : List HP) (W : World) (i : Nat) (o : Oper) (v : Value) (a : Act) : Prop :=
  ∀ w, Sat W w Fl → (Region.wanted o (yielded ops a.tmps) = true ∧ (execOp a.eval o).run P w = .ok (.value v) w) ∨ (Region.wanted o (yielded ops a.tmps) = false ∧ v = undef)
theorem FloatRuns.of {o : Oper} {v : Value} {W : World} {i : Nat} (hf : FloatAt P ops E Fl o v) {a : Act} (hv : View n D a E) : FloatRuns r P ops Fl W i o v a := fun w hs => by
  have run : Yl P E Fl o.op o.type v → (execOp a.eval o).run P w = .ok (.value v) w := fun hy => by
    have := hy n D W a w o.dst o.pos o.after o.guard hv hs
    have e : (⟨o.dst, o.op, o.type, o.pos, o.after, o.guard⟩ : Oper) = o := by cases o; rfl
    rwa [e] at this
  rcases hf with ⟨hg, hy⟩ | ⟨j, want, g, b, hg, hgs, hl, h⟩ | ⟨j, want, g, hg, hgs, hl, rfl⟩
  rotate_left 2
  · exact .inr ⟨wanted_undef hg hgs hl hv, rfl⟩
  · exact .inl ⟨by simp [Region.wanted, hg], run hy⟩
  · have hy' : yielded ops a.tmps j = some b := by simp [yielded, hgs, hv.get g _ hl]
    rcases h with ⟨rfl, hy⟩ | ⟨hb, rfl⟩
    · exact .inl ⟨by simp [Region.wanted, hg, hy'], run hy⟩
    · exact .inr ⟨by simp only [Region.wanted, hg, hy']; simpa using hb, rfl⟩
theorem FloatRuns.same {o : Oper} {v : Value} {W : World} {i : Nat} {a a' : Act} (h : FloatRuns r P ops Fl W i o v a) (hs : Same ops o a a') : FloatRuns r P ops Fl W i o v a' := fun w hw => by
  rw [hs.1, hs.2]
  exact h w hw
theorem FloatRuns.step {o : Oper} {v : Value} {W : World} {i : Nat} {a : Act} (h : FloatRuns r P ops Fl W i o v a) (hi : ops[i]? = some o) (hnd : plainOp o.op = true) {w : World} (hs : Sat W w Fl) {K : Act → World → Prop} (hk : K (a.put o.dst v) w) :
    wpOpIn (Fw r) 0 P ops (fun _ _ _ => False) i K a w := by
  have hd : ∀ c, o.op ≠ .defer c := fun c e => by rw [e] at hnd; cases hnd
  unfold wpOpIn
  simp only [hi]
  rcases h w hs with ⟨hw, hr⟩ | ⟨hw, rfl⟩
  · rw [if_pos hw]
    refine ⟨fun _ _ => trivial, ?_⟩
    rw [Oper.semAt_eq _ _ _ hd, hr]
    exact hk
  · rw [if_neg (by rw [hw]; simp)]
    exact ⟨fun _ _ => trivial, hk⟩

theorem plain_sel {o : Oper} (h : plainOp o.op = true) : ∀ cs b, o.op ≠ .select cs b := fun cs b e => by rw [e] at h; cases h
theorem plain_def {o : Oper} (h : plainOp o.op = true) : ∀ c, o.op ≠ .defer c := fun c e => by rw [e] at h; cases h
/-- A float's slot being filled ahead changes nothing for an operation apart from it. -/
theorem put_step {j : Nat} {oi oj : Oper} {v : Value} (hj : ops[j]? = some oj) (hap : oi.apart ops oj = true) (hpi : plainOp oi.op = true) (hpj : plainOp oj.op = true) {K K' : Act → World → Prop} {a : Act} {w : World}
    (hK : ∀ a' w', Same ops oi a a' → K (a'.put oi.dst v) w' → K' a' w') (h : wpOpIn (Fw r) 0 P ops (fun _ _ _ => False) j K (a.put oi.dst v) w) : wpOpIn (Fw r) 0 P ops (fun _ _ _ => False) j K' a w := by
  obtain ⟨h1, h2, h3⟩ := Oper.apart_spec hap
  have keep : ∀ u, Same ops oi a (a.put oj.dst u) := fun u => ⟨execOp_put oi (plain_sel hpi) a oj.dst u h3, wanted_put oi a oj.dst u h3⟩
  have hd := plain_def hpj
  unfold wpOpIn at *
  simp only [hj] at *
  rw [wanted_put oj a oi.dst v h1] at h
  split
  · rename_i hw
    simp only [hw, if_true] at h
    refine ⟨fun _ _ => trivial, ?_⟩
    have h := h.2
    rw [Oper.semAt_eq _ _ _ hd, execOp_put oj (plain_sel hpj) a oi.dst v h1] at h
    rw [Oper.semAt_eq _ _ _ hd]
    generalize hres : (execOp a.eval oj).run P w = x at *
    cases x with
    | ok x w' =>
      cases x <;> simp only [Oper.uponIn] at h ⊢
      case value u => exact hK _ _ (keep u) (by rw [← Act.put_comm a v u h2]; exact h)
      case skip => exact hK _ _ (keep _) (by rw [← Act.put_comm a v undef h2]; exact h)
      case defer d =>
        refine hK _ _ ?_ ?_
        · have k := keep undef
          refine ⟨?_, ?_⟩
          · rw [← k.1]; cases oj.dst <;> rfl
          · rw [← k.2]; cases oj.dst <;> rfl
        · rw [← Act.put_comm _ v undef h2, ← Act.put_defers]; exact h
      case enter f args =>
        refine ⟨h.1, CallsIn.mono h.2 fun e w'' he => ?_⟩
        cases e with
        | returned u => exact hK _ _ (keep u) (by rw [← Act.put_comm a v u h2]; exact he)
        | panicked c => exact he.elim
        | outgrown => obtain ⟨_, _, he⟩ := he; exact he.elim
      case row row args => exact ⟨h.1, RowsIn.mono h.2 fun u w'' he => hK _ _ (keep u) (by rw [← Act.put_comm a v u h2]; exact he)⟩
      case round l f tmps assign body =>
        refine ⟨h.1, RoundIn.mono h.2 fun e w'' he => ?_⟩
        cases e with
        | returned u => exact hK _ _ (keep u) (by rw [← Act.put_comm a v u h2]; exact he)
        | panicked c => exact he.elim
        | outgrown => obtain ⟨_, _, he⟩ := he; exact he.elim
    | halt x w' => cases x <;> simp only [Oper.uponIn] at h ⊢
  · rename_i hw
    simp only [hw] at h
    exact ⟨fun _ _ => trivial, hK _ _ (keep undef) (by rw [← Act.put_comm a v undef h2]; exact h.2)⟩
/-- A float may come later. -/
theorem wpF_insert {W : World} {K : St → Prop} {i : Nat} {oi : Oper} {v : Value} (hi : ops[i]? = some oi) (hpi : plainOp oi.op = true) :
    ∀ (s1 s2 : List Nat) (a : Act) (w : World), (∀ j ∈ s1, ∃ oj, ops[j]? = some oj ∧ oi.apart ops oj = true ∧ plainOp oj.op = true ∧ tl.contains j = false) → FloatRuns r P ops Fl W i oi v a → Sat W w Fl →
      wpF r n P ops tl Fl W K (s1 ++ s2) (a.put oi.dst v) w → wpF r n P ops tl Fl W K (s1 ++ i :: s2) a w
  | [], s2, a, w, _, hf, hs, h => hf.step hi hpi hs ⟨fun _ => hs, h⟩
  | j :: s1, s2, a, w, hap, hf, hs, h => by
    obtain ⟨oj, hj, h1, h2, h3⟩ := hap j List.mem_cons_self
    refine put_step hj h1 hpi h2 ?_ h
    rintro a' w' hsame ⟨hs', h'⟩
    exact ⟨hs', wpF_insert hi hpi s1 s2 a' w' (fun k hk => hap k (List.mem_cons_of_mem _ hk)) (hf.same hsame) (hs' h3) h'⟩

theorem TL_one_wp {i : Nat} {o : Oper} {s : St} {K : St → Prop} {W : World} {a : Act} {w : World} (hi : ops[i]? = some o) (h : TL r n P ops [o] s K) (hh : Holds n W s a w) {K' : Act → World → Prop} (hk : ∀ a w s', K s' → Holds n W s' a w → K' a w) :
    wpOpIn (Fw r) 0 P ops (fun _ _ _ => False) i K' a w := by
  have := h W a w hh
  simp only [wpListIn] at this
  unfold wpOpIn
  simp only [hi]
  split
  · rename_i hw
    rw [if_pos hw] at this
    exact ⟨fun _ _ => trivial, uponIn_mono (fun a w ⟨_, s', k, hh⟩ => hk a w s' k hh) (fun c a w h => by cases h.1) (fun ⟨_, _, h⟩ => by cases h.1) _ this.2⟩
  · rename_i hw
    rw [if_neg hw] at this
    exact ⟨fun _ _ => trivial, let ⟨_, s', k, hh⟩ := this.2; hk _ _ s' k hh⟩

/-- The judgement tells every schedule. -/
theorem TF_sound {X : List (Nat × Nat)} {l : List Oper} {B tl : List Nat} {K : St → Prop} {W : World} (hm : masksOk X B l 0 = true) (hX : ∀ e ∈ X, e.1 < l.length) : ∀ (π : List (Nat × Bool)) (done : List Nat) (sched : List Nat) (s : St) (a : Act) (w : World), (π.map (·.1)).Nodup → orderOk X l.toArray B tl done π = true →
    (∀ i ∈ sched, i ∈ π.map (·.1)) → (∀ i ∈ π.map (·.1), i ∈ sched) → sched.Nodup → sched.length = π.length → (∀ i ∈ done, i ∉ sched) → (∀ i ∈ done, ∀ m, (B.getD i 0).testBit m = true → m ∈ done) → VS X l.toArray (fun i => i ∈ done) sched →
    TF r n P l.toArray tl Fl π s K → Holds n W s a w → (π.any (·.2) = true → Sat W w Fl) → wpF r n P l.toArray tl Fl W K sched a w := by
  intro π
  induction π with
  | nil =>
    intro done sched s a w _ _ h1 _ _ _ _ _ _ hT hh _
    cases sched with
    | nil =>
      obtain ⟨s', h1, h2⟩ := hT
      exact ⟨s', h2, h1 W a w hh⟩
    | cons x r => have := h1 x List.mem_cons_self; cases this
  | cons p π ih =>
    obtain ⟨i, fl⟩ := p
    intro done sched s a w hπ hord h1 h2 hnd hlen hdone hcl hvs hT hh hs
    have him : i ∈ sched := h2 i (by simp)
    simp only [orderOk] at hord
    cases ho : l.toArray[i]? with
    | none => rw [ho] at hord; simp at hord
    | some o =>
      rw [ho] at hord
      simp only [Bool.and_eq_true, List.all_eq_true] at hord
      obtain ⟨⟨hdeps, hfl⟩, hrest⟩ := hord
      have hol : l[i]? = some o := by simpa using ho
      have hplain := (masksOk_at hm hol).2.2
      have hdo : ∀ e ∈ depsX X i o, e ∈ done := fun e he => by simpa using hdeps e he
      -- all that the done ones wait for is done
      have hcl' : ∀ k ∈ i :: done, ∀ m, (B.getD k 0).testBit m = true → m ∈ i :: done := by
        intro k hk m hb
        rcases List.mem_cons.1 hk with rfl | hk
        · have hB := (masksOk_at hm hol).1
          rw [Nat.zero_add] at hB
          rw [hB] at hb
          obtain ⟨e, he, h⟩ := maskOf_bit hb
          rcases h with rfl | h
          · exact List.mem_cons_of_mem _ (hdo e he)
          · exact List.mem_cons_of_mem _ (hcl e (hdo e he) m h)
        · exact List.mem_cons_of_mem _ (hcl k hk m hb)
      have hnb : ∀ j ∈ done, ∀ o', l[j]? = some o' → (B.getD j 0).testBit i = false := by
        intro j hj o' _
        cases hb : (B.getD j 0).testBit i with
        | false => rfl
        | true => exact absurd him (hdone i (hcl j hj i hb))
      obtain ⟨s1, s2, rfl⟩ := List.append_of_mem him
      have hi1 : i ∉ s1 := by
        intro h
        rw [List.nodup_append] at hnd
        exact hnd.2.2 i h i (by simp) rfl
      have hi2 : i ∉ s2 := by
        intro h
        rw [List.nodup_append] at hnd
        exact (List.nodup_cons.1 hnd.2.1).1 h
      have hvs1 : VS X l.toArray (fun k => k ∈ done) s1 := by
        clear ih hT hh hs h1 h2 hlen hdone hcl hcl' hnb hi1 hi2 hnd him
        have : ∀ (s1 s2 : List Nat) (p : Nat → Prop), VS X l.toArray p (s1 ++ s2) → VS X l.toArray p s1 := by
          intro s1
          induction s1 with
          | nil => intros; trivial
          | cons x r ih => intro s2 p h; exact ⟨h.1, ih s2 _ h.2⟩
        exact this s1 (i :: s2) _ hvs
      have hni : ¬ i ∈ done := fun h => hdone i h him
      have hanc := VS.anc hm hX hvs1 hi1 hni hnb
      have h1' : ∀ k ∈ s1 ++ s2, k ∈ π.map (·.1) := by
        intro k hk
        have : k ∈ s1 ++ i :: s2 := by
          rcases List.mem_append.1 hk with h | h
          · exact List.mem_append.2 (.inl h)
          · exact List.mem_append.2 (.inr (List.mem_cons_of_mem _ h))
        have := h1 k this
        simp only [List.map_cons, List.mem_cons] at this
        rcases this with rfl | h
        · rcases List.mem_append.1 hk with h | h
          · exact absurd h hi1
          · exact absurd h hi2
        · exact h
      have hnd' : (s1 ++ s2).Nodup := by
        rw [List.nodup_append] at hnd ⊢
        exact ⟨hnd.1, (List.nodup_cons.1 hnd.2.1).2, fun x hx y hy => hnd.2.2 x hx y (List.mem_cons_of_mem _ hy)⟩
      have hlen' : (s1 ++ s2).length = π.length := by simp at hlen ⊢; omega
      have hpi : i ∉ π.map (·.1) := (List.nodup_cons.1 (by simpa using hπ)).1
      have hπ' : (π.map (·.1)).Nodup := (List.nodup_cons.1 (by simpa using hπ)).2
      have hmem := orderOk_mem hrest
      have h2' : ∀ k ∈ π.map (·.1), k ∈ s1 ++ s2 := by
        intro k hk
        have := h2 k (by simp only [List.map_cons]; exact List.mem_cons_of_mem _ hk)
        rcases List.mem_append.1 this with h | h
        · exact List.mem_append.2 (.inl h)
        · rcases List.mem_cons.1 h with rfl | h
          · exact absurd hk hpi
          · exact List.mem_append.2 (.inr h)
      have hdone' : ∀ k ∈ i :: done, k ∉ s1 ++ s2 := by
        intro k hk
        rcases List.mem_cons.1 hk with rfl | hk
        · simp [hi1, hi2]
        · intro h
          refine hdone k hk ?_
          rcases List.mem_append.1 h with h | h
          · exact List.mem_append.2 (.inl h)
          · exact List.mem_append.2 (.inr (List.mem_cons_of_mem _ h))
      have hvs' : VS X l.toArray (fun k => k ∈ i :: done) (s1 ++ s2) := (VS.take hvs).mono fun k hk => by
        rcases hk with rfl | h
        · exact List.mem_cons_self
        · exact List.mem_cons_of_mem _ h
      cases fl with
      | true =>
        simp only [if_true, Bool.and_eq_true, List.all_eq_true, Bool.or_eq_true] at hfl
        obtain ⟨o', d, v, ho', hdst, hd, hf, hT'⟩ := hT
        rw [ho] at ho'; cases ho'
        have hs := hs (by simp)
        refine wpF_insert ho hplain s1 s2 a w (fun j hj => ?_) (FloatRuns.of hf hh.1) hs ?_
        · have hjp := h1' j (List.mem_append.2 (.inl hj))
          obtain ⟨⟨j', fj⟩, hjm, rfl⟩ := List.mem_map.1 hjp
          have hj2 := hfl.2 (j', fj) hjm
          cases hoj : l[j']? with
          | none =>
            obtain ⟨o2, ho2⟩ := hmem j' hjp
            simp [hoj] at ho2
          | some oj =>
            have hpj := (masksOk_at hm hoj).2.2
            rcases hj2 with h | h
            · rw [hanc j' hj oj hoj] at h; cases h
            · refine ⟨oj, by simpa using hoj, by simpa [hoj] using h, hpj, ?_⟩
              cases hc : tl.contains j' with
              | false => rfl
              | true =>
                have := hfl.1 j' (by simpa using hc)
                rw [hanc j' hj oj hoj] at this
                cases this
        · rw [hdst]
          exact ih (i :: done) (s1 ++ s2) _ _ w hπ' hrest h1' h2' hnd' hlen' hdone' hcl' hvs' hT' ⟨hh.1.put (by simpa using hd) v, hh.2⟩ (fun _ => hs)
      | false =>
        simp only [Bool.false_eq_true, if_false, Bool.and_eq_true, List.all_eq_true] at hfl
        obtain ⟨o', ho', hTL⟩ := hT
        rw [ho] at ho'; cases ho'
        have : s1 = [] := by
          cases s1 with
          | nil => rfl
          | cons j r1 =>
            exfalso
            have hjp := h1' j (by simp)
            obtain ⟨⟨j', fj⟩, hjm, rfl⟩ := List.mem_map.1 hjp
            have hb := hfl.2 (j', fj) hjm
            cases hoj : l[j']? with
            | none =>
              obtain ⟨o2, ho2⟩ := hmem j' hjp
              simp [hoj] at ho2
            | some oj => rw [hanc j' (by simp) oj hoj] at hb; cases hb
        subst this
        refine TL_one_wp ho hTL hh ?_
        rintro a' w' s' ⟨hg, hT'⟩ hh'
        have hs' : tl.contains i = false → Sat W w' Fl := fun hc => by
          rcases hg with h | h
          · rw [hc] at h; cases h
          · exact hh'.2.gives h
        have hs2 : π.any (·.2) = true → Sat W w' Fl := fun hany => by
          refine hs' ?_
          cases hc : tl.contains i with
          | false => rfl
          | true =>
            obtain ⟨j, hj, hj2⟩ := List.any_eq_true.1 hany
            have := hfl.1
            rw [hc] at this
            simp only [Bool.not_true, Bool.false_or, List.all_eq_true] at this
            have := this j hj
            rw [hj2] at this
            cases this
        exact ⟨hs', ih (i :: done) s2 s' a' w' hπ' hrest (by simpa using h1') (by simpa using h2') (by simpa using hnd') (by simpa using hlen') (by simpa using hdone') hcl' (by simpa using hvs') hT' hh' hs2⟩

/-! ### The schedules that the model draws -/
def unl (n : Nat) (b : Array Bool) : List Nat := (List.range n).filter fun i => !b.getD i true
theorem unl_set {N : Nat} {b : Array Bool} {i : Nat} (hb : b.size = N) (hi : i < N) (hf : b.getD i true = false) : (unl N (b.setIfInBounds i true)).length + 1 = (unl N b).length := by
  have hgen : ∀ (l : List Nat), l.Nodup → i ∈ l → (∀ j ∈ l, j < N) → ((l.filter fun j => !(b.setIfInBounds i true).getD j true).length + 1 = (l.filter fun j => !b.getD j true).length) := by
    intro l
    induction l with
    | nil => intro _ h; cases h
    | cons x r ih =>
      intro hnd hm hlt
      rw [List.nodup_cons] at hnd
      have hx : ∀ j, j ≠ i → (b.setIfInBounds i true).getD j true = b.getD j true := fun j hj => by
        simp only [Array.getD_eq_getD_getElem?, Array.getElem?_setIfInBounds_ne (Ne.symm hj)]
      rcases List.mem_cons.1 hm with rfl | hm
      · have h1 : (r.filter fun j => !(b.setIfInBounds i true).getD j true) = r.filter fun j => !b.getD j true := List.filter_congr fun j hj => by rw [hx j (fun e => hnd.1 (by rw [← e]; exact hj))]
        have h2 : (b.setIfInBounds i true).getD i true = true := by simp [Array.getD_eq_getD_getElem?, hb, hi]
        simp only [List.filter_cons, h2, hf, Bool.not_true, Bool.not_false, if_true, h1, List.length_cons]
        simp
      · have hne : x ≠ i := fun e => hnd.1 (by rw [e]; exact hm)
        have := ih hnd.2 hm (fun j hj => hlt j (List.mem_cons_of_mem _ hj))
        simp only [List.filter_cons, hx x hne]
        cases b.getD x true
        · simpa using this
        · simpa using this
  exact hgen (List.range N) List.nodup_range (List.mem_range.2 hi) (fun j hj => List.mem_range.1 hj)
theorem depsX_nil (j : Nat) (o : Oper) : depsX [] j o = depsOf o := by simp [depsX]
theorem sched_ok {X : List (Nat × Nat)} {l : List Oper} {B : List Nat} (hm : masksOk X B l 0 = true) : ∀ (fuel t : Nat) (b : Array Bool), b.size = l.length → (unl l.length b).length = fuel →
    VS [] l.toArray (fun i => b.getD i false = true) (Region.linearise.go .any l.toArray fuel t b []) ∧ (∀ i, i < l.length → b.getD i true = false → i ∈ Region.linearise.go .any l.toArray fuel t b []) ∧
      (Region.linearise.go .any l.toArray fuel t b []).Nodup ∧ (∀ i ∈ Region.linearise.go .any l.toArray fuel t b [], i < l.length ∧ b.getD i true = false) ∧ (Region.linearise.go .any l.toArray fuel t b []).length = fuel := by
  intro fuel
  induction fuel with
  | zero =>
    intro t b hb hu
    refine ⟨trivial, fun i hi hf => ?_, List.nodup_nil, (fun i hi => (by cases hi)), rfl⟩
    have : i ∈ unl l.length b := List.mem_filter.2 ⟨List.mem_range.2 hi, by simp [hf]⟩
    rw [List.eq_nil_of_length_eq_zero hu] at this
    cases this
  | succ fuel ih =>
    intro t b hb hu
    have hmemr : ∀ i, i ∈ Region.ready .any l.toArray b ↔ i < l.length ∧ b.getD i true = false ∧ ∃ o, l[i]? = some o ∧ ∀ e ∈ depsOf o, b.getD e false = true := by
      intro i
      unfold Region.ready
      rw [List.mem_filter, List.mem_range]
      simp only [List.size_toArray, Bool.and_eq_true, Bool.not_eq_true']
      constructor
      · rintro ⟨h1, h2, h3⟩
        refine ⟨h1, h2, l[i], List.getElem?_eq_getElem h1, fun e he => ?_⟩
        simp only [List.getElem?_toArray, List.getElem?_eq_getElem h1, Option.map_some, Option.getD_some] at h3
        unfold depsOf at he
        obtain ⟨x, hx, rfl⟩ := List.mem_map.1 he
        obtain ⟨hx1, hx2⟩ := List.mem_filter.1 hx
        rw [Array.all_eq_true_iff_forall_mem] at h3
        have := h3 x (by simpa using hx1)
        simpa [hx2] using this
      · rintro ⟨h1, h2, o, ho, h3⟩
        refine ⟨h1, h2, ?_⟩
        simp only [List.getElem?_toArray, ho, Option.map_some, Option.getD_some]
        rw [Array.all_eq_true_iff_forall_mem]
        intro x hx
        cases hbd : Region.binds .any x with
        | false => simp
        | true =>
          have := h3 x.on (List.mem_map.2 ⟨x, List.mem_filter.2 ⟨by simpa using hx, hbd⟩, rfl⟩)
          simpa using this
    have hne : Region.ready .any l.toArray b ≠ [] := by
      intro hnil
      have hex : ∃ i, i < l.length ∧ b.getD i true = false := by
        cases hun : unl l.length b with
        | nil => rw [hun] at hu; simp at hu
        | cons x r =>
          have : x ∈ unl l.length b := by rw [hun]; exact List.mem_cons_self
          obtain ⟨h1, h2⟩ := List.mem_filter.1 this
          exact ⟨x, List.mem_range.1 h1, by simpa using h2⟩
      have hmin : ∀ k i, i ≤ k → i < l.length → b.getD i true = false → ∃ i, i < l.length ∧ b.getD i true = false ∧ ∀ j, j < i → b.getD j true = true := by
        intro k
        induction k with
        | zero => intro i hi h1 h2; exact ⟨i, h1, h2, fun j hj => by omega⟩
        | succ k ihk =>
          intro i hi h1 h2
          by_cases hc : ∃ j, j < i ∧ b.getD j true = false
          · obtain ⟨j, h3, h4⟩ := hc
            exact ihk j (by omega) (by omega) h4
          · refine ⟨i, h1, h2, fun j hj => ?_⟩
            cases hbj : b.getD j true with
            | true => rfl
            | false => exact absurd ⟨j, hj, hbj⟩ hc
      obtain ⟨i, h1, h2⟩ := hex
      obtain ⟨i, h1, h2, h3⟩ := hmin i i (Nat.le_refl _) h1 h2
      have : i ∈ Region.ready .any l.toArray b := by
        rw [hmemr]
        refine ⟨h1, h2, l[i], List.getElem?_eq_getElem h1, fun e he => ?_⟩
        have hlt := (masksOk_at hm (List.getElem?_eq_getElem h1)).2.1 e he
        have := h3 e (by omega)
        have hel : e < b.size := by omega
        simp only [Array.getD_eq_getD_getElem?, Array.getElem?_eq_getElem hel, Option.getD_some] at this ⊢
        exact this
      rw [hnil] at this
      cases this
    simp only [Region.linearise.go]
    change _ ∧ _
    have hsel : ∃ i, (Region.ready .any l.toArray b)[t % (Region.ready .any l.toArray b).length]? = some i := by
      have hpos : 0 < (Region.ready .any l.toArray b).length := List.length_pos_iff.2 hne
      exact ⟨_, List.getElem?_eq_getElem (Nat.mod_lt _ hpos)⟩
    obtain ⟨i, hsi⟩ := hsel
    have hir := (hmemr i).1 (List.mem_of_getElem? hsi)
    obtain ⟨hil, hif, o, ho, hdeps⟩ := hir
    have hgo : (match (Region.ready .any l.toArray b)[t % (Region.ready .any l.toArray b).length]? with
        | some i => Region.linearise.go .any l.toArray fuel (t / (Region.ready .any l.toArray b).length) (b.setIfInBounds i true) [i]
        | none => [].reverse) = i :: Region.linearise.go .any l.toArray fuel (t / (Region.ready .any l.toArray b).length) (b.setIfInBounds i true) [] := by
      rw [hsi]
      simp only []
      rw [linearise_go_acc]
      simp
    have hu' := unl_set hb hil hif
    obtain ⟨k1, k2, k3, k4, k5⟩ := ih (t / (Region.ready .any l.toArray b).length) (b.setIfInBounds i true) (by simpa using hb) (by omega)
    have hset : ∀ j, j ≠ i → ∀ d, (b.setIfInBounds i true).getD j d = b.getD j d := fun j hj d => by
      simp only [Array.getD_eq_getD_getElem?, Array.getElem?_setIfInBounds_ne (Ne.symm hj)]
    have hseti : ∀ d, (b.setIfInBounds i true).getD i d = true := fun d => by simp [Array.getD_eq_getD_getElem?, hb, hil]
    change VS [] l.toArray _ (match (Region.ready .any l.toArray b)[t % (Region.ready .any l.toArray b).length]? with
        | some i => Region.linearise.go .any l.toArray fuel (t / (Region.ready .any l.toArray b).length) (b.setIfInBounds i true) [i]
        | none => [].reverse) ∧ (∀ j, j < l.length → b.getD j true = false → j ∈ (match (Region.ready .any l.toArray b)[t % (Region.ready .any l.toArray b).length]? with
        | some i => Region.linearise.go .any l.toArray fuel (t / (Region.ready .any l.toArray b).length) (b.setIfInBounds i true) [i]
        | none => [].reverse)) ∧ (match (Region.ready .any l.toArray b)[t % (Region.ready .any l.toArray b).length]? with
        | some i => Region.linearise.go .any l.toArray fuel (t / (Region.ready .any l.toArray b).length) (b.setIfInBounds i true) [i]
        | none => [].reverse).Nodup ∧ (∀ j ∈ (match (Region.ready .any l.toArray b)[t % (Region.ready .any l.toArray b).length]? with
        | some i => Region.linearise.go .any l.toArray fuel (t / (Region.ready .any l.toArray b).length) (b.setIfInBounds i true) [i]
        | none => [].reverse), j < l.length ∧ b.getD j true = false) ∧ (match (Region.ready .any l.toArray b)[t % (Region.ready .any l.toArray b).length]? with
        | some i => Region.linearise.go .any l.toArray fuel (t / (Region.ready .any l.toArray b).length) (b.setIfInBounds i true) [i]
        | none => [].reverse).length = fuel + 1
    rw [hgo]
    refine ⟨⟨fun o' ho' e he => ?_, k1.mono fun j hj => ?_⟩, fun j hj hf => ?_, List.nodup_cons.2 ⟨fun h => ?_, k3⟩, fun j hj => ?_, by simp [k5]⟩
    · have : o' = o := by simpa [ho] using ho'.symm
      subst this
      exact hdeps e (by rw [depsX_nil] at he; exact he)
    · by_cases e : j = i
      · exact .inl e
      · right; show b.getD j false = true; rw [← hset j e]; exact hj
    · by_cases e : j = i
      · rw [e]; exact List.mem_cons_self
      · exact List.mem_cons_of_mem _ (k2 j hj (by rw [hset j e]; exact hf))
    · have := (k4 i h).2
      rw [hseti] at this
      cases this
    · rcases List.mem_cons.1 hj with rfl | hj
      · exact ⟨hil, hif⟩
      · have := k4 j hj
        refine ⟨this.1, ?_⟩
        by_cases e : j = i
        · subst e; rw [hseti] at this; exact absurd this.2 (by simp)
        · rw [← hset j e]; exact this.2
/-- A schedule that bears X meets one of the ends. -/
theorem region_run {X : List (Nat × Nat)} {l : List Oper} {s : St} {K : St → Prop} {W : World} (Fl : List HP) (B tl : List Nat) (π : List (Nat × Bool)) (hok : regionOk X l B tl π = true) (hFl : Gives s.L Fl) (h : TF r n P l.toArray tl Fl π s K)
    {sched : List Nat} {a : Act} {w : World} (hh : Holds n W s a w) (k1 : VS X l.toArray (fun i => (Array.replicate l.length false).getD i false = true) sched) (k2 : ∀ i, i < l.length → i ∈ sched) (k3 : sched.Nodup) (k4 : ∀ i ∈ sched, i < l.length) (k5 : sched.length = l.length) : wpF r n P l.toArray tl Fl W K sched a w := by
  simp only [regionOk, Bool.and_eq_true] at hok
  obtain ⟨⟨⟨⟨⟨h1, hX⟩, h2⟩, h3⟩, h4⟩, h5⟩ := hok
  have hX' : ∀ e ∈ X, e.1 < l.length := fun e he => by simpa using List.all_eq_true.1 hX e he
  have hlen : π.length = l.length := by simpa using h4
  refine TF_sound h1 hX' π [] _ s a _ (nodupB_eq h5) h2 (fun i hi => ?_) (fun i hi => ?_) k3 (by rw [k5, hlen]) (fun i hi => by cases hi) (fun i hi => by cases hi) (k1.mono fun i hi => ?_) h hh (fun _ => hh.2.gives hFl)
  · have := List.all_eq_true.1 h3 i (List.mem_range.2 (k4 i hi))
    simpa using this
  · obtain ⟨o, ho⟩ := orderOk_mem h2 i hi
    have hil : i < l.length := by
      have := (Array.getElem?_eq_some_iff.1 ho).1
      simpa using this
    exact k2 i hil
  · simp only [Array.getD_eq_getD_getElem?] at hi
    by_cases hil : i < l.length
    · simp [hil] at hi
    · simp [hil] at hi
theorem unl_all (l : List Oper) : (unl l.length (Array.replicate l.length false)).length = l.length := by
  unfold unl
  rw [List.filter_eq_self.2 (fun i hi => by simp [Array.getD_eq_getD_getElem?, List.mem_range.1 hi])]
  simp
theorem T_region_draw_last {id : Nat} {l : List Oper} {s : St} {Q : Exit → St → Prop} (Fl : List HP) (B tl : List Nat) (π : List (Nat × Bool)) (hmix : P.follows .mixedOrders = true) (hok : regionOk [] l B tl π = true) (hFl : Gives s.L Fl)
    (h : TF r n P l.toArray tl Fl π s (fun s' => Q .normal s')) : T r n P (.region id l.toArray true) s Q := fun W a w hh => by
  refine wpIn_region_draw fun t => ?_
  simp only [Region.schedule, hmix, Bool.true_or, if_true]
  have hm := hok
  simp only [regionOk, Bool.and_eq_true] at hm
  obtain ⟨k1, k2, k3, k4, k5⟩ := sched_ok hm.1.1.1.1.1 l.length t (Array.replicate l.length false) (by simp) (unl_all l)
  have hlin : Region.linearise .any l.toArray t = Region.linearise.go .any l.toArray l.length t (Array.replicate l.length false) [] := by
    simp [Region.linearise]
  rw [hlin]
  have hdrew : Holds n W s a { w with drawn := w.drawn + 1 } := ⟨hh.1, hh.2.drew⟩
  exact wpF_ops (fun a' w' s' hk hh' => ⟨s', hk, hh'⟩) _ _ _ (region_run Fl B tl π hok hFl h hdrew k1 (fun i hi => k2 i hi (by simp [Array.getD_eq_getD_getElem?, hi])) k3 (fun i hi => (k4 i hi).1) k5)
theorem vs_add {ops : Array Oper} {i j : Nat} : ∀ {l : List Nat} {p : Nat → Prop}, (∀ s1 s2, l = s1 ++ j :: s2 → i ∈ s1 ∨ p i) → VS [] ops p l → VS [(i, j)] ops p l
  | [], _, _, _ => trivial
  | k :: r, p, h, ⟨h1, h2⟩ => by
    refine ⟨fun o ho e he => ?_, vs_add (fun s1 s2 e => ?_) h2⟩
    · rcases List.mem_append.1 he with he | he
      · exact h1 o ho e (by rw [depsX_nil]; exact he)
      · obtain ⟨x, hx, rfl⟩ := List.mem_map.1 he
        have hx := List.mem_filter.1 hx
        simp only [List.mem_singleton] at hx
        obtain ⟨rfl, hk⟩ := hx
        have hk : j = k := Nat.eq_of_beq_eq_true hk
        subst hk
        rcases h [] r rfl with h | h
        · cases h
        · exact h
    · rcases h (k :: s1) s2 (by rw [e]; rfl) with h | h
      · rcases List.mem_cons.1 h with rfl | h
        · exact .inr (.inl rfl)
        · exact .inl h
      · exact .inr (.inr h)
theorem order_or {i j : Nat} (hij : i ≠ j) : ∀ l : List Nat, (∀ s1 s2, l = s1 ++ j :: s2 → i ∈ s1) ∨ (∀ s1 s2, l = s1 ++ i :: s2 → j ∈ s1)
  | [] => .inl fun s1 s2 e => by cases s1 <;> cases e
  | x :: r => by
    by_cases hx : x = i
    · subst hx
      refine .inl fun s1 s2 e => ?_
      cases s1 with
      | nil => cases e; exact absurd rfl hij
      | cons y s1 => cases e; exact List.mem_cons_self
    · by_cases hy : x = j
      · subst hy
        refine .inr fun s1 s2 e => ?_
        cases s1 with
        | nil => cases e; exact absurd rfl hij
        | cons y s1 => cases e; exact List.mem_cons_self
      · rcases order_or hij r with h | h
        · refine .inl fun s1 s2 e => ?_
          cases s1 with
          | nil => cases e; exact absurd rfl hy
          | cons y s1 => cases e; exact List.mem_cons_of_mem _ (h s1 s2 rfl)
        · refine .inr fun s1 s2 e => ?_
          cases s1 with
          | nil => cases e; exact absurd rfl hx
          | cons y s1 => cases e; exact List.mem_cons_of_mem _ (h s1 s2 rfl)
/-- Where two operations stand in no order: both orders are walked. -/
theorem T_region_draw2_last {id : Nat} {l : List Oper} {s : St} {Q : Exit → St → Prop} (Fl Fl2 : List HP) (i j : Nat) (hij : i ≠ j) (B tl : List Nat) (π : List (Nat × Bool)) (B2 tl2 : List Nat) (π2 : List (Nat × Bool)) (hmix : P.follows .mixedOrders = true) (hok : regionOk [(i, j)] l B tl π = true) (hok2 : regionOk [(j, i)] l B2 tl2 π2 = true) (hFl : Gives s.L Fl) (hFl2 : Gives s.L Fl2)
    (h : TF r n P l.toArray tl Fl π s (fun s' => Q .normal s')) (h2 : TF r n P l.toArray tl2 Fl2 π2 s (fun s' => Q .normal s')) : T r n P (.region id l.toArray true) s Q := fun W a w hh => by
  refine wpIn_region_draw fun t => ?_
  simp only [Region.schedule, hmix, Bool.true_or, if_true]
  have hm := hok
  simp only [regionOk, Bool.and_eq_true] at hm
  obtain ⟨k1, k2, k3, k4, k5⟩ := sched_ok hm.1.1.1.1.1 l.length t (Array.replicate l.length false) (by simp) (unl_all l)
  have hlin : Region.linearise .any l.toArray t = Region.linearise.go .any l.toArray l.length t (Array.replicate l.length false) [] := by
    simp [Region.linearise]
  rw [hlin]
  have hdrew : Holds n W s a { w with drawn := w.drawn + 1 } := ⟨hh.1, hh.2.drew⟩
  have kk2 := fun i hi => k2 i hi (by simp [Array.getD_eq_getD_getElem?, hi])
  rcases order_or hij (Region.linearise.go .any l.toArray l.length t (Array.replicate l.length false) []) with ho | ho
  · exact wpF_ops (fun a' w' s' hk hh' => ⟨s', hk, hh'⟩) _ _ _ (region_run Fl B tl π hok hFl h hdrew (vs_add (fun s1 s2 e => .inl (ho s1 s2 e)) k1) kk2 k3 (fun i hi => (k4 i hi).1) k5)
  · exact wpF_ops (fun a' w' s' hk hh' => ⟨s', hk, hh'⟩) _ _ _ (region_run Fl2 B2 tl2 π2 hok2 hFl2 h2 hdrew (vs_add (fun s1 s2 e => .inl (ho s1 s2 e)) k1) kk2 k3 (fun i hi => (k4 i hi).1) k5)
theorem T_region_draw {id : Nat} {l : List Oper} {y : Code} {s : St} {Q : Exit → St → Prop} (Fl : List HP) (B tl : List Nat) (π : List (Nat × Bool)) (hmix : P.follows .mixedOrders = true) (hok : regionOk [] l B tl π = true) (hFl : Gives s.L Fl)
    (h : TF r n P l.toArray tl Fl π s (fun s' => T r n P y s' Q)) : T r n P (.seq (.region id l.toArray true) y) s Q := T_seq (T_region_draw_last Fl B tl π hmix hok hFl h)
theorem T_region_draw2 {id : Nat} {l : List Oper} {y : Code} {s : St} {Q : Exit → St → Prop} (Fl Fl2 : List HP) (i j : Nat) (hij : i ≠ j) (B tl : List Nat) (π : List (Nat × Bool)) (B2 tl2 : List Nat) (π2 : List (Nat × Bool)) (hmix : P.follows .mixedOrders = true) (hok : regionOk [(i, j)] l B tl π = true) (hok2 : regionOk [(j, i)] l B2 tl2 π2 = true) (hFl : Gives s.L Fl) (hFl2 : Gives s.L Fl2)
    (h : TF r n P l.toArray tl Fl π s (fun s' => T r n P y s' Q)) (h2 : TF r n P l.toArray tl2 Fl2 π2 s (fun s' => T r n P y s' Q)) : T r n P (.seq (.region id l.toArray true) y) s Q := T_seq (T_region_draw2_last Fl Fl2 i j hij B tl π B2 tl2 π2 hmix hok hok2 hFl hFl2 h h2)
theorem TF_nil {s : St} {K : St → Prop} (h : K s) : TF r n P ops tl Fl [] s K := ⟨s, fun _ _ _ h => h, h⟩
theorem TF_y {π : List (Nat × Bool)} {K : St → Prop} {i d : Nat} {op : Op} {ty : TypeId} {pos : String} {af : Array Edge} {v : Value} (ho : ops[i]? = some ⟨some d, op, ty, pos, af, none⟩) (hd : Nat.blt d n = true) (hy : Yl P E Fl op ty v) (h : TF r n P ops tl Fl π ⟨D, (d, v) :: E, L⟩ K) :
    TF r n P ops tl Fl ((i, true) :: π) ⟨D, E, L⟩ K := ⟨_, d, v, ho, rfl, hd, .inl ⟨rfl, hy⟩, h⟩
theorem TF_gy {π : List (Nat × Bool)} {K : St → Prop} {i d j g : Nat} {op : Op} {ty : TypeId} {pos : String} {af : Array Edge} {v : Value} {want : Bool} (ho : ops[i]? = some ⟨some d, op, ty, pos, af, some (j, want)⟩) (hg : (ops[j]?).bind (·.dst) = some g) (hl : look E g = some (.bool want)) (hd : Nat.blt d n = true) (hy : Yl P E Fl op ty v)
    (h : TF r n P ops tl Fl π ⟨D, (d, v) :: E, L⟩ K) : TF r n P ops tl Fl ((i, true) :: π) ⟨D, E, L⟩ K := ⟨_, d, v, ho, rfl, hd, .inr (.inl ⟨j, want, g, want, rfl, hg, hl, .inl ⟨rfl, hy⟩⟩), h⟩
theorem TF_gskip {π : List (Nat × Bool)} {K : St → Prop} {i d j g : Nat} {op : Op} {ty : TypeId} {pos : String} {af : Array Edge} {want b : Bool} (ho : ops[i]? = some ⟨some d, op, ty, pos, af, some (j, want)⟩) (hg : (ops[j]?).bind (·.dst) = some g) (hl : look E g = some (.bool b)) (hb : (b == want) = false) (hd : Nat.blt d n = true)
    (h : TF r n P ops tl Fl π ⟨D, (d, undef) :: E, L⟩ K) : TF r n P ops tl Fl ((i, true) :: π) ⟨D, E, L⟩ K := ⟨_, d, undef, ho, rfl, hd, .inr (.inl ⟨j, want, g, b, rfl, hg, hl, .inr ⟨hb, rfl⟩⟩), h⟩
theorem TF_gskip_u {π : List (Nat × Bool)} {K : St → Prop} {i d j g : Nat} {op : Op} {ty : TypeId} {pos : String} {af : Array Edge} {want : Bool} (ho : ops[i]? = some ⟨some d, op, ty, pos, af, some (j, want)⟩) (hg : (ops[j]?).bind (·.dst) = some g) (hl : look E g = some undef) (hd : Nat.blt d n = true)
    (h : TF r n P ops tl Fl π ⟨D, (d, undef) :: E, L⟩ K) : TF r n P ops tl Fl ((i, true) :: π) ⟨D, E, L⟩ K := ⟨_, d, undef, ho, rfl, hd, .inr (.inr ⟨j, want, g, rfl, hg, hl, rfl⟩), h⟩
theorem TF_anchor {π : List (Nat × Bool)} {K : St → Prop} {i : Nat} {o : Oper} {s : St} (ho : ops[i]? = some o) (h : TL r n P ops [o] s (fun s' => (tl.contains i = true ∨ Gives s'.L Fl) ∧ TF r n P ops tl Fl π s' K)) : TF r n P ops tl Fl ((i, false) :: π) s K := ⟨o, ho, h⟩
theorem TF_end {π : List (Nat × Bool)} {K : St → Prop} {i : Nat} (hg : Gives L Fl) (h : TF r n P ops tl Fl π ⟨D, E, L⟩ K) : TL r n P ops [] ⟨D, E, L⟩ (fun s' => (tl.contains i = true ∨ Gives s'.L Fl) ∧ TF r n P ops tl Fl π s' K) := TL_nil ⟨.inr hg, h⟩
theorem TF_end_tail {π : List (Nat × Bool)} {K : St → Prop} {i : Nat} (hi : tl.contains i = true) (h : TF r n P ops tl Fl π ⟨D, E, L⟩ K) : TL r n P ops [] ⟨D, E, L⟩ (fun s' => (tl.contains i = true ∨ Gives s'.L Fl) ∧ TF r n P ops tl Fl π s' K) := TL_nil ⟨.inl hi, h⟩
theorem Yl.less {E' : Env} {op : Op} {ty : TypeId} {v : Value} (hE : ∀ i v, look E' i = some v → look E i = some v) (h : Yl P E' L op ty v) : Yl P E L op ty v := fun n D W a w dst pos af g ha hs => h n D W a w dst pos af g (ha.less hE) hs
theorem FloatAt.less {E' : Env} {o : Oper} {v : Value} (hE : ∀ i v, look E' i = some v → look E i = some v) (h : FloatAt P ops E' Fl o v) : FloatAt P ops E Fl o v := by
  rcases h with ⟨hg, hy⟩ | ⟨j, want, g, b, h1, h2, h3, h⟩ | ⟨j, want, g, h1, h2, h3, h⟩
  rotate_left 2
  · exact .inr (.inr ⟨j, want, g, h1, h2, hE _ _ h3, h⟩)
  · exact .inl ⟨hg, hy.less hE⟩
  · refine .inr (.inl ⟨j, want, g, b, h1, h2, hE _ _ h3, ?_⟩)
    rcases h with ⟨e, hy⟩ | h
    · exact .inl ⟨e, hy.less hE⟩
    · exact .inr h
theorem look_cons_less {E' : Env} (hE : ∀ i v, look E' i = some v → look E i = some v) (d : Nat) (u : Value) : ∀ i v, look ((d, u) :: E') i = some v → look ((d, u) :: E) i = some v := fun i v h => by
  simp only [look] at h ⊢
  cases e : Nat.beq d i with
  | true => rw [e] at h; exact h
  | false => rw [e] at h; exact hE i v h
theorem look_same {g : Nat} {u : Value} (hl : look E g = some u) : ∀ i v, look ((g, u) :: E) i = some v → look E i = some v := fun i v h => by
  simp only [look] at h
  cases e : Nat.beq g i with
  | true =>
    rw [e] at h
    simp only [cond_true, Option.some.injEq] at h
    have : g = i := Nat.eq_of_beq_eq_true e
    subst this; subst h
    exact hl
  | false => rw [e] at h; exact h
/-- What is told of fewer slots is told of more. -/
theorem TF_less {K : St → Prop} : ∀ {π : List (Nat × Bool)} {E E' : Env} {L : List HP}, (∀ i v, look E' i = some v → look E i = some v) → TF r n P ops tl Fl π ⟨D, E', L⟩ K → TF r n P ops tl Fl π ⟨D, E, L⟩ K
  | [], E, E', L, hE, ⟨s', h1, h2⟩ => ⟨s', fun W a w hh => h1 W a w ⟨hh.1.less hE, hh.2⟩, h2⟩
  | (i, false) :: π, E, E', L, hE, ⟨o, ho, h⟩ => ⟨o, ho, fun W a w hh => h W a w ⟨hh.1.less hE, hh.2⟩⟩
  | (i, true) :: π, E, E', L, hE, ⟨o, d, v, ho, hdst, hd, hf, h⟩ => ⟨o, d, v, ho, hdst, hd, hf.less hE, TF_less (look_cons_less hE d v) h⟩
/-- A truth is taken both ways ahead of the region's next operation. -/
theorem TF_split {π : List (Nat × Bool)} {K : St → Prop} (g : Nat) {b : Bool} (hl : look E g = some (.bool b)) (ht : b = true → TF r n P ops tl Fl π ⟨D, (g, .bool true) :: E, L⟩ K) (hf : b = false → TF r n P ops tl Fl π ⟨D, (g, .bool false) :: E, L⟩ K) :
    TF r n P ops tl Fl π ⟨D, E, L⟩ K := by
  cases b with
  | true => exact TF_less (look_same hl) (ht rfl)
  | false => exact TF_less (look_same hl) (hf rfl)
theorem TF_splitd {π : List (Nat × Bool)} {K : St → Prop} (g : Nat) {p : Prop} [Decidable p] (hl : look E g = some (.bool (decide p))) (ht : p → TF r n P ops tl Fl π ⟨D, (g, .bool true) :: E, L⟩ K) (hf : ¬ p → TF r n P ops tl Fl π ⟨D, (g, .bool false) :: E, L⟩ K) :
    TF r n P ops tl Fl π ⟨D, E, L⟩ K := TF_split g hl (fun e => ht (of_decide_eq_true e)) (fun e => hf (of_decide_eq_false e))
theorem TF_name {π : List (Nat × Bool)} {K : St → Prop} (g : Nat) {v v' : Value} (hl : look E g = some v) (e : v = v') (h : TF r n P ops tl Fl π ⟨D, (g, v') :: E, L⟩ K) : TF r n P ops tl Fl π ⟨D, E, L⟩ K := by
  subst e
  exact TF_less (look_same hl) h
end
end Go.SL
