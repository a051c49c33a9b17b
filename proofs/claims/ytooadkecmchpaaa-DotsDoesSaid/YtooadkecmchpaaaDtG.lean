/- Dots (STR): All, Upto, Extras, Missing. -/
import Derived.Test.YtooadkecmchpaaaDtF
set_option linter.unusedVariables false
set_option linter.unusedSimpArgs false
namespace Go.SL
open Go Go.Proofs
abbrev whSTR (b bn bw : Nat) (fw : FuncId) (fsw csw : List Value) (Lw : HP) : List HP := [cells bn [.pointer (some ⟨b, 0, none⟩)] 25, cells bw [.func (.func fw) fsw.toArray csw.toArray] 102, con bw Lw]
theorem whereSTR_iter {b bn bw : Nat} {p : DsSTR} {l : List (DotD × tSTR)} {fw : FuncId} [IsCall Try.prog fw] {fsw csw : List Value} {Lw : HP} {W : DotD → Bool} (hw : ∀ d Lx, dotOk d → Fn Try.prog fw (fsw ++ [dotV d] ++ csw).toArray (con bw Lw :: Lx) (fun v L' => v = .bool (W d) ∧ L' = con bw Lw :: Lx)) :
    IterS Try.prog (.func (.func 107) #[] #[.pointer (some ⟨bn, 0, none⟩), .pointer (some ⟨bw, 0, none⟩)]) itSTR (fun x _ => dotOk x.1 ∧ okSTR x.2) 65536 [dsSTR b p l] (whSTR b bn bw fw fsw csw Lw) (fun st xs => (st = false → xs = l.filter fun q => W q.1) ∧ xs <+: l.filter fun q => W q.1) :=
  ⟨_, [], [.pointer (some ⟨bn, 0, none⟩), .pointer (some ⟨bw, 0, none⟩)], rfl, inferInstance, fun τ ly C step stop cnt s0 Lx h0 hc hcnt hy => (where1STR_spec hw h0 hc hcnt hy).cases_ fun v L' ⟨xs, s', a1, a2, a3⟩ => ⟨xs, s', a1, a2, a3⟩⟩
theorem all1STR_spec {L : List HP} {bw : Nat} (d : DotD) : Fn Try.prog 72 #[dotV d] (con bw (pure True) :: L) (fun v L' => v = .bool true ∧ L' = con bw (pure True) :: L) := by
  refine Fn_enter Try.func72 rfl rfl rfl rfl ?_
  refine T_region ?_
  refine TL_box rfl rfl rfl ?_
  intro b1
  refine TL_y rfl rfl (Y_assign rfl) ?_
  refine TL_nil ?_
  refine T_region ?_
  refine TL_y rfl rfl (Y_assign rfl) ?_
  refine TL_nil ?_
  refine T_ret ?_
  exact RetG_1 (.inl rfl) rfl (ResV.tmp rfl) GivesTo.g (⟨rfl, rfl⟩)
theorem allSTR_spec {L : List HP} {a : Value} (ha : a.oneCell' = true) (ha2 : partsOf a = some [a]) : Fn Try.prog 32 #[a] L (fun v L' => ∃ bn bw, v = .func (.func 107) #[] #[.pointer (some ⟨bn, 0, none⟩), .pointer (some ⟨bw, 0, none⟩)] ∧ L' = cells bn [a] 25 :: cells bw [.func (.func 72) #[] #[]] 102 :: con bw (pure True) :: L) := by
  refine Fn_enter Try.func32 rfl rfl rfl rfl ?_
  refine T_region ?_
  refine TL_y rfl rfl (Y_assign rfl) ?_
  refine TL_nil ?_
  refine T_region ?_
  refine TL_y rfl rfl (Y_move rfl) ?_
  refine TL_call rfl rfl (whereSTR_spec ha ha2) ?_
  rintro _ _ ⟨bn, bw, rfl, rfl⟩
  refine TL_gives (Gives.pure_intro trivial) ?_
  refine TL_gives (show Gives (con bw (pure True) :: _) _ from Gives.refl _) ?_
  refine TL_y rfl rfl (Y_assign rfl) ?_
  refine TL_nil ?_
  refine T_ret ?_
  exact RetG_1 (.inl rfl) rfl (ResV.tmp rfl) GivesTo.g (⟨bn, bw, rfl, rfl⟩)
/-- What Upto's function holds: a vector of its own. -/
def upSTR (bo : Nat) (A : Option Addr) (c : Nat) (v : List Int) : HP := unS [cells bo [.slice A v.length c] 38, osl (intR .i64) 3 A c v]
theorem upto1STR_spec {L : List HP} {bw bo : Nat} {A : Option Addr} {c : Nat} {v : List Int} (d : DotD) : Fn Try.prog 73 #[dotV d, .pointer (some ⟨bo, 0, none⟩)] (con bw (upSTR bo A c v) :: L) (fun r L' => r = .bool (decide (hasV v d)) ∧ L' = con bw (upSTR bo A c v) :: L) := by
  refine Fn_enter Try.func73 rfl rfl rfl rfl ?_
  refine T_gives (unS_open (L := [cells bo [.slice A v.length c] 38, osl (intR .i64) 3 A c v]) (L' := L)) ?_
  simp only [List.cons_append, List.nil_append]
  refine T_region ?_
  refine TL_box rfl rfl rfl ?_
  intro b2
  refine TL_y rfl rfl (Y_assign rfl) ?_
  refine TL_nil ?_
  refine T_region ?_
  refine TL_y rfl rfl (Y_load rfl rfl) ?_
  refine TL_y rfl rfl (Y_load_agg rfl rfl) ?_
  refine TL_call rfl rfl (vvHas_spec sln d) ?_
  rintro _ _ ⟨rfl, rfl⟩
  refine TL_y rfl rfl (Y_assign rfl) ?_
  refine TL_nil ?_
  refine T_ret ?_
  refine RetQ.gives (show Gives _ (cells bo [.slice A v.length c] 38 :: osl (intR .i64) 3 A c v :: L) from GivesTo.g) ?_
  refine RetQ.gives (unS_close (L := [cells bo [.slice A v.length c] 38, osl (intR .i64) 3 A c v]) (L' := L)) ?_
  refine RetQ.gives (show Gives (upSTR bo A c v :: L) (con bw (upSTR bo A c v) :: L) from Gives.refl _) ?_
  exact RetG_1 (.inl rfl) rfl (ResV.tmp rfl) GivesTo.g (⟨rfl, rfl⟩)
theorem uptoSTR_spec {L : List HP} {a : Value} {Av : Option Addr} {cv : Nat} {v : List Int} (ha : a.oneCell' = true) (ha2 : partsOf a = some [a]) (hk : SlN L (intR .i64) Av cv v) (hb : v.length ≤ 17592186043904) : Fn Try.prog 33 #[a, .slice Av v.length cv] L (fun r L' => ∃ bn bw bo A c, r = .func (.func 107) #[] #[.pointer (some ⟨bn, 0, none⟩), .pointer (some ⟨bw, 0, none⟩)] ∧ L' = cells bn [a] 25 :: cells bw [.func (.func 73) #[] #[.pointer (some ⟨bo, 0, none⟩)]] 102 :: con bw (upSTR bo A c v) :: L) := by
  refine Fn_enter Try.func33 rfl rfl rfl rfl ?_
  refine T_region ?_
  refine TL_y rfl rfl (Y_assign rfl) ?_
  refine TL_nil ?_
  refine T_region ?_
  refine TL_y rfl rfl (Y_move rfl) ?_
  refine TL_call rfl rfl (cloneN_spec hk hb) ?_
  rintro _ _ ⟨A7, c7, rfl, rfl⟩
  refine TL_alloc rfl rfl ?_
  intro b5
  refine TL_store rfl rfl rfl rfl rfl rfl ?_
  refine TL_nil ?_
  refine T_region ?_
  refine TL_y rfl rfl (Y_move rfl) ?_
  refine TL_y rfl rfl (Y_make_func rfl rfl) ?_
  refine TL_call rfl rfl (whereSTR_spec ha ha2) ?_
  rintro _ _ ⟨bn, bw, rfl, rfl⟩
  refine TL_gives (show Gives _ ([cells b5 [.slice A7 v.length c7] 38, osl (intR .i64) 3 A7 c7 v] ++ (cells bn [a] 25 :: cells bw [.func (.func 73) #[] #[.pointer (some ⟨b5, 0, none⟩)]] 102 :: L)) from GivesTo.g (L' := cells b5 [.slice A7 v.length c7] 38 :: osl (intR .i64) 3 A7 c7 v :: cells bn [a] 25 :: cells bw [.func (.func 73) #[] #[.pointer (some ⟨b5, 0, none⟩)]] 102 :: L)) ?_
  refine TL_gives unS_close ?_
  refine TL_gives (show Gives (upSTR b5 A7 c7 v :: _) (con bw (upSTR b5 A7 c7 v) :: _) from Gives.refl _) ?_
  refine TL_y rfl rfl (Y_assign rfl) ?_
  refine TL_nil ?_
  refine T_ret ?_
  exact RetG_1 (.inl rfl) rfl (ResV.tmp rfl) GivesTo.g (⟨bn, bw, b5, A7, c7, rfl, rfl⟩)
structure ExtSTR where
  k : Nat
  xs : List DotD
  A : Option Addr
  c : Nat
  le : xs.length ≤ k
def extStepSTR (V : List Int) : LS ExtSTR → DotD × tSTR → LS ExtSTR → Prop := fun s x s' => s'.2 = none ∧ s'.1.k = s.1.k + 1 ∧ s'.1.xs = s.1.xs ++ (if hasV V x.1 then [] else [x.1])
theorem ext_runsSTR {V : List Int} {s s' : LS ExtSTR} {ys : List (DotD × tSTR)} (h0 : s.2 = none) (h : Runs (extStepSTR V) (fun s => !s.2.isNone) s ys s') : s'.2 = none ∧ s'.1.xs = s.1.xs ++ (ys.map (·.1)).filter (fun d => !decide (hasV V d)) := by
  induction h with
  | nil s => exact ⟨h0, by simp⟩
  | halt a b => rw [a.1] at b; simp at b
  | @go s1 s2 s3 x xs a b c ih =>
    have h1 := ih a.1
    refine ⟨h1.1, ?_⟩
    rw [h1.2, a.2.2, List.map_cons, List.filter_cons, List.append_assoc]
    by_cases hv : hasV V x.1 <;> simp [hv]
def extraD {α : Type} (l : List (DotD × α)) : List DotD := (l.map (·.1)).filter fun d => !decide (hasV (vecL l) d)
theorem filter_all {α : Type} (l : List α) : (l.filter fun _ => true) = l := List.filter_eq_self.2 fun _ _ => rfl
theorem dot_rep {d : DotD} (h : dotOk d) : ∀ M, dotR.rep M d (dotC d) := fun _ => ⟨rfl, h⟩
theorem extrasSTR_spec {L : List HP} {b : Nat} {p : DsSTR} {l : List (DotD × tSTR)} : Fn Try.prog 23 #[.pointer (some ⟨b, 0, none⟩)] (dsSTR b p l :: L) (fun v L' => ∃ A c, v = .slice A (extraD l).length c ∧ L' = osl dotR 31 A c (extraD l) :: dsSTR b p l :: L) := by
  refine Fn_enterM Try.func23 rfl rfl rfl rfl ?_
  refine T_region ?_
  refine TL_box rfl rfl rfl ?_
  intro b1
  refine TL_y rfl rfl (Y_assign rfl) ?_
  refine TL_nil ?_
  refine T_region ?_
  refine TL_alloc rfl rfl ?_
  intro b3
  refine TL_nil ?_
  refine T_seq ?_
  refine T_region ?_
  refine TL_y rfl rfl (Y_load rfl rfl) ?_
  refine TL_call rfl rfl (allSTR_spec rfl rfl) ?_
  rintro _ _ ⟨bn, bw, rfl, rfl⟩
  refine TL_nil ?_
  refine T_block ?_
  refine T_range_iterS (fun g : ExtSTR => [cells b3 [.slice g.A g.xs.length g.c] 42, osl dotR 31 g.A g.c g.xs, cells b1 [.pointer (some ⟨b, 0, none⟩)] 25]) (extStepSTR (vecL l)) (fun g : ExtSTR => g.k) (⟨0, [], none, 0, Nat.le_refl _⟩) rfl (whereSTR_iter (b := b) (p := p) (l := l) (bn := bn) (bw := bw) (fsw := []) (csw := []) (Lw := pure True) (W := fun _ => true) (fun d Lx h => all1STR_spec d)) ((osl_nil dotR 31 none _).trans (show Gives _ ([cells b3 [.slice none 0 0] 42, osl dotR 31 none 0 [], cells b1 [.pointer (some ⟨b, 0, none⟩)] 25] ++ ([dsSTR b p l] ++ (whSTR b bn bw 72 [] [] (pure True) ++ L))) from GivesTo.g (L' := cells b3 [.slice none 0 0] 42 :: osl dotR 31 none 0 [] :: cells b1 [.pointer (some ⟨b, 0, none⟩)] 25 :: dsSTR b p l :: cells bn [.pointer (some ⟨b, 0, none⟩)] 25 :: cells bw [.func (.func 72) #[] #[]] 102 :: con bw (pure True) :: L))) (by decide) (fun _ => rfl) rfl (fun s x s' h => h.2.1) (fun l900 b900 g x Lx hx hlt => ?_) (fun m900 xs g hseq hrun => ?_)
  · obtain ⟨kk, xs, A3, c3, hle⟩ := g
    dsimp only at hlt ⊢
    simp only [List.cons_append, List.nil_append]
    try simp only [List.cons_append, List.nil_append]
    refine T_region_last ?_
    refine TL_alloc rfl rfl ?_
    intro b4
    refine TL_store rfl rfl rfl rfl rfl rfl ?_
    refine TL_nil ?_
    refine ⟨rfl, _, FindHP.g, ?_⟩
    refine T_block ?_
    refine T_pullk b ?_
    refine T_dsSTR fun hi hp => ?_
    have hd7 : (vecL l).length = 7 := vecL_len
    refine T_region_draw _ [0, 1, 3, 7, 0, 31, 63] [] [(0, true), (1, true), (2, true), (3, true), (4, true), (5, false), (6, true)] (by kernel_rfl) (by decide +kernel) (Gives.refl _) ?_
    refine TF_y rfl rfl (Y_load rfl rfl) ?_
    refine TF_y rfl rfl (Y_nil_check rfl) ?_
    refine TF_y rfl rfl (Y_field_addr rfl) ?_
    refine TF_y rfl rfl (Y_load rfl rfl) ?_
    refine TF_name 12 (v' := .slice p.V (vecL l).length p.cv) rfl (by rw [hd7]) ?_
    refine TF_y rfl rfl (Y_load_agg rfl rfl) ?_
    refine TF_anchor rfl ?_
    refine TL_call rfl rfl (vvHas_spec (sln (A := p.V) (c := p.cv) (xs := vecL l)) x.1) ?_
    rintro _ _ ⟨rfl, rfl⟩
    refine TF_end GivesTo.g ?_
    refine TF_y rfl rfl (Y_not_d rfl) ?_
    refine TF_nil ?_
    refine T_if rfl (fun h15 => ?_) (fun h15 => ?_)
    · have hxn : (if hasV (vecL l) x.1 then ([] : List DotD) else [x.1]) = [x.1] := if_neg h15
      refine T_region_last ?_
      refine TL_y rfl rfl (Y_load rfl rfl) ?_
      refine TL_y rfl rfl (Y_load_agg rfl rfl) ?_
      refine TL_build_slice rfl rfl rfl rfl rfl rfl ?_
      intro b18
      refine TL_osl (k := 1) dotR [x.1] (Knows.const fun M => ⟨dotC x.1, [], dot_rep hx.1 M, rfl, rfl⟩) rfl (by decide) ?_
      refine TL_freeze_osl ?_
      refine TL_name 18 (v' := .slice (some ⟨b18, 0, none⟩) [x.1].length 1) rfl rfl ?_
      refine TL_append rfl rfl rfl rfl rfl slk (by simp only [List.length_cons, List.length_nil]; omega) ?_
      intro A19 c19
      refine TL_store rfl rfl rfl rfl rfl rfl ?_
      refine TL_nil ?_
      refine inB_normal ?_
      exact ⟨⟨kk + 1, xs ++ [x.1], A19, c19, by simp; omega⟩, none, rfl, ⟨rfl, rfl, by dsimp only; rw [hxn]⟩, (dsSTR_close b p l hi hp).trans GivesTo.g⟩
    · have hxn : (if hasV (vecL l) x.1 then ([] : List DotD) else [x.1]) = [] := if_pos (Classical.not_not.1 h15)
      refine T_skip ?_
      refine inB_normal ?_
      exact ⟨⟨kk + 1, xs, A3, c3, by omega⟩, none, rfl, ⟨rfl, rfl, by dsimp only; rw [hxn, List.append_nil]⟩, (dsSTR_close b p l hi hp).trans GivesTo.g⟩
  · obtain ⟨⟨k2, ys, A4, c4, hle2⟩, j⟩ := g
    obtain ⟨hj, h2⟩ := ext_runsSTR rfl hrun
    dsimp only at hj h2
    subst hj
    have hxs := hseq.1 rfl
    rw [filter_all] at hxs
    subst hxs
    rw [List.nil_append] at h2
    have h3 : ys = extraD xs := h2
    subst h3
    try simp only [List.cons_append, List.nil_append]
    refine behind_none ?_
    refine inB_normal ?_
    refine thenS_normal ?_
    refine T_region ?_
    refine TL_y rfl rfl (Y_load rfl rfl) ?_
    refine TL_y rfl rfl (Y_assign rfl) ?_
    refine TL_nil ?_
    refine T_ret ?_
    refine retM1 ?_
    exact RetG_1 (.inl rfl) rfl (ResV.tmp rfl) GivesTo.g (⟨A4, c4, rfl, rfl⟩)
end Go.SL
