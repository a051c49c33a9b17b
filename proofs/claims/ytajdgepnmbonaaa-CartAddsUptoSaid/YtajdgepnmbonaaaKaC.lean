/- What the laws of this claim need, together: the logic, data in memory, the walks of functions. -/
import Derived.Test.YtajdgepnmbonaaaKaB
import Derived.Test.YtajdgepnmbonaaaRows
import Derived.WalkKit
import Derived.JoinedCond
import Derived.Deep.CondSized
set_option linter.unusedVariables false
set_option linter.unusedSimpArgs false
set_option linter.unusedVariables false
set_option linter.unusedSimpArgs false
namespace Go.SL
open Go Go.Proofs
structure GaStS where
  xs : List ByteArray
  A : Option Addr
  c : Nat
def gaStepS : LS GaStS → ByteArray → LS GaStS → Prop := fun s x s' => s'.2 = none ∧ s'.1.xs = s.1.xs ++ [x]
theorem gaS_runs {s s' : LS GaStS} {xs : List ByteArray} (h0 : s.2 = none) (h : Runs gaStepS (fun s => !s.2.isNone) s xs s') : s'.2 = none ∧ s'.1.xs = s.1.xs ++ xs := by
  induction h with
  | nil s => exact ⟨h0, by simp⟩
  | halt a b => rw [a.1] at b; simp at b
  | go a b c ih => have := ih a.1; rw [a.2] at this; simpa using this
theorem appendSeqS_spec {c : Value} {N : Nat} {Lf Lr : List HP} {seqs : Bool → List ByteArray → Prop} (hi : IterC Try.prog c (fun k : ByteArray => [.string k]) (fun k => k.size ≤ maxEl) N Lf seqs) (hN : N ≤ 1099511627776) : Fn Try.prog 83 #[.slice none 0 0, c] (Lf ++ Lr) (fun v L' => ∃ A' c' xs, v = .slice A' xs.length c' ∧ seqs false xs ∧ L' = osl strR 9 A' c' xs :: (Lf ++ Lr)) := by
  refine Fn_enterM Try.func83 rfl rfl rfl rfl ?_
  refine T_region ?_
  refine TL_box rfl rfl rfl ?_
  intro b2
  refine TL_y rfl rfl (Y_assign rfl) ?_
  refine TL_nil ?_
  refine T_seq ?_
  refine T_region ?_
  refine TL_y rfl rfl (Y_move rfl) ?_
  refine TL_nil ?_
  refine T_block ?_
  refine T_range_iter (fun g : GaStS => [cells b2 [.slice g.A g.xs.length g.c] 69, osl strR 9 g.A g.c g.xs]) (gaStepS) (fun g : GaStS => g.xs.length) (⟨[], none, 0⟩) rfl (hi) ((osl_nil strR 9 none _).trans (Gives.swap _ _ _)) (by decide) (fun _ => rfl) rfl (fun s x s' h => by rw [h.2]; simp) (fun l900 b900 g x Lx hx hlt => ?_) (fun m900 xs g hseq hrun => ?_)
  · obtain ⟨xs, A, c⟩ := g
    dsimp only at hlt
    try simp only [List.cons_append, List.nil_append]
    refine T_region_last ?_
    refine TL_y rfl rfl (Y_assign rfl) ?_
    refine TL_nil ?_
    refine ⟨rfl, _, FindHP.g, ?_⟩
    refine T_block ?_
    refine T_region_last ?_
    refine TL_y rfl rfl (Y_load rfl rfl) ?_
    refine TL_y rfl rfl (Y_move rfl) ?_
    refine TL_build_slice rfl rfl rfl rfl rfl rfl ?_
    intro b10
    refine TL_osl (k := 1) strR [x] (Knows.const fun M => ⟨[.string x], [], ⟨rfl, hx⟩, rfl, rfl⟩) rfl (by decide) ?_
    refine TL_freeze_osl ?_
    refine TL_name 10 (v' := .slice (some ⟨b10, 0, none⟩) [x].length 1) rfl rfl ?_
    refine TL_append rfl rfl rfl rfl rfl slk (by simp only [List.length_cons, List.length_nil]; omega) ?_
    intro A11 c11
    refine TL_store rfl rfl rfl rfl rfl rfl ?_
    refine TL_nil ?_
    refine inB_normal ?_
    exact ⟨⟨xs ++ [x], A11, c11⟩, none, rfl, ⟨rfl, rfl⟩, GivesTo.g⟩
  · obtain ⟨⟨ys, A, c⟩, j⟩ := g
    obtain ⟨rfl, h2⟩ := gaS_runs rfl hrun
    dsimp only at h2
    rw [List.nil_append] at h2
    subst h2
    try simp only [List.cons_append, List.nil_append]
    refine behind_none ?_
    refine inB_normal ?_
    refine thenS_normal ?_
    refine T_region ?_
    refine TL_y rfl rfl (Y_load rfl rfl) ?_
    refine TL_y rfl rfl (Y_assign rfl) ?_
    refine TL_nil ?_
    refine T_ret ?_
    refine retM1 ?_
    exact RetG_1 (.inl rfl) rfl (ResV.tmp rfl) GivesTo.g (⟨A, c, ys, rfl, hseq, rfl⟩)
theorem collectS_spec {c : Value} {N : Nat} {Lf Lr : List HP} {seqs : Bool → List ByteArray → Prop} (hi : IterC Try.prog c (fun k : ByteArray => [.string k]) (fun k => k.size ≤ maxEl) N Lf seqs) (hN : N ≤ 1099511627776) : Fn Try.prog 69 #[c] (Lf ++ Lr) (fun v L' => ∃ A' c' xs, v = .slice A' xs.length c' ∧ seqs false xs ∧ L' = osl strR 9 A' c' xs :: (Lf ++ Lr)) := by
  refine Fn_enter Try.func69 rfl rfl rfl rfl ?_
  refine T_region ?_
  refine TL_y rfl rfl (Y_assign rfl) ?_
  refine TL_nil ?_
  refine T_region ?_
  refine TL_y rfl rfl (Y_move rfl) ?_
  refine TL_call rfl rfl (appendSeqS_spec hi hN) ?_
  rintro _ _ ⟨A4, c4, xs, rfl, hs, rfl⟩
  refine TL_y rfl rfl (Y_assign rfl) ?_
  refine TL_nil ?_
  refine T_ret ?_
  exact RetG_1 (.inl rfl) rfl (ResV.tmp rfl) GivesTo.g (⟨A4, c4, xs, rfl, hs, rfl⟩)
theorem sortedS_spec {c : Value} {N : Nat} {Lf Lr : List HP} {seqs : Bool → List ByteArray → Prop} (hi : IterC Try.prog c (fun k : ByteArray => [.string k]) (fun k => k.size ≤ maxEl) N Lf seqs) (hN : N ≤ 1099511627776) : Fn Try.prog 39 #[c] (Lf ++ Lr) (fun v L' => ∃ A' c' xs, v = .slice A' (srtS xs).length c' ∧ seqs false xs ∧ L' = osl strR 9 A' c' (srtS xs) :: (Lf ++ Lr)) := by
  refine Fn_enter Try.func39 rfl rfl rfl rfl ?_
  refine T_region ?_
  refine TL_y rfl rfl (Y_assign rfl) ?_
  refine TL_nil ?_
  refine T_region ?_
  refine TL_y rfl rfl (Y_move rfl) ?_
  refine TL_call rfl rfl (collectS_spec hi hN) ?_
  rintro _ _ ⟨A5, c5, xs, rfl, hs, rfl⟩
  refine TL_fact osl_len (fun _ h => h) fun hl5 => ?_
  simp only [maxEl] at hl5
  refine TL_y rfl rfl (Y_assign rfl) ?_
  refine TL_nil ?_
  refine T_region ?_
  refine TL_y rfl rfl (Y_move rfl) ?_
  refine TL_call rfl rfl (sortS_spec (by omega)) ?_
  rintro _ _ ⟨rfl, rfl⟩
  refine TL_nil ?_
  refine T_region ?_
  refine TL_y rfl rfl (Y_move rfl) ?_
  refine TL_y rfl rfl (Y_assign rfl) ?_
  refine TL_nil ?_
  refine T_ret ?_
  rw [← srtS_length xs]
  exact RetG_1 (.inl rfl) rfl (ResV.tmp rfl) GivesTo.g (⟨A5, c5, xs, rfl, hs, rfl⟩)
end Go.SL
set_option linter.unusedVariables false
set_option linter.unusedSimpArgs false
namespace Go.SL
open Go Go.Proofs
theorem keysQ1_spec {β : Type} {R : Rep β} {ag : Bool} {b bx : Nat} {m : List (ByteArray × β)} {τ : Type} {l : Nat} {C : τ → HP} {step : τ → ByteArray → τ → Prop} {stop : τ → Bool} {cnt : τ → Nat} {s0 : τ} {Lx : List HP} (h0 : stop s0 = false) (hc0 : cnt s0 = 0) (hcnt : ∀ s x s', step s x s' → cnt s' = cnt s + 1) (hy : YieldsC Try.prog l C (fun k : ByteArray => [.string k]) (fun k => k.size ≤ maxEl) step stop cnt m.length) :
    Fn Try.prog 71 #[.func (.yield l) #[] #[], .pointer (some ⟨bx, 0, none⟩)] (con l (C s0) :: cells bx [.map (some b)] 68 :: omap strK R ag b m :: Lx)
      (fun v L' => ∃ xs s', (stop s' = false → xs.Perm (m.map (·.1))) ∧ Runs step stop s0 xs s' ∧ L' = con l (C s') :: cells bx [.map (some b)] 68 :: omap strK R ag b m :: Lx) := by
  refine Fn_enter Try.func71 rfl rfl rfl rfl ?_
  refine T_region ?_
  refine TL_y rfl rfl (Y_load rfl rfl) ?_
  refine TL_range rfl rfl ?_
  intro it
  refine TL_nil ?_
  refine T_block ?_
  refine T_loopK (σ := List (ByteArray × β) × τ) [0, 5] (fun g => Runs step stop s0 (g.1.map (·.1)) g.2 ∧ stop g.2 = false ∧ cnt g.2 = g.1.length) (fun g kv => kv) (fun g => con l (C g.2) :: mrange strK R ag b it m g.1 :: cells bx [.map (some b)] 68 :: Lx) (fun g => m.length - g.1.length) (([], s0)) rfl (⟨.nil _, h0, hc0⟩) (GivesTo.g) (sub_cons rfl (sub_cons rfl (sub_nil))) ?_
  rintro ⟨done, s⟩ ⟨hr, hs, hc⟩
  dsimp only at hr hs hc ⊢
  refine T_region ?_
  refine TL_next rfl rfl (fun hp => ?_) (fun q1 cs1 hq hd1 hlt => ?_)
  · refine TL_y rfl rfl (Y_extract rfl rfl) ?_
    refine TL_name 7 (v' := .bool false) rfl (rfl) ?_
    refine TL_nil ?_
    refine T_seq ?_
    refine T_cond_false rfl ?_
    refine T_exit ?_
    refine thenS_exit ?_
    refine thenS_exit ?_
    refine inB_hit ?_
    refine RetQ.gives (endr it) ?_
    exact RetG_0 (.inr rfl) rfl GivesTo.g (⟨_, s, fun _ => hp.map _, hr, rfl⟩)
  · refine TL_y rfl rfl (Y_extract rfl rfl) ?_
    refine TL_name 7 (v' := .bool true) rfl (rfl) ?_
    refine TL_nil ?_
    refine T_seq ?_
    refine T_cond_true rfl ?_
    refine T_skip ?_
    refine thenS_normal ?_
    refine T_block ?_
    refine T_region ?_
    refine TL_entry rfl rfl ?_
    intro cs8 ok8
    refine TL_y rfl rfl (Y_extract rfl rfl) ?_
    refine TL_y rfl rfl (Y_assign rfl) ?_
    refine TL_nil ?_
    refine T_region ?_
    refine TL_y rfl rfl (Y_move rfl) ?_
    refine TL_y rfl rfl (Y_move rfl) ?_
    refine TL_pullk l ?_
    refine TL_yield rfl rfl rfl (hy s q1.1 _ hs ok8 (by omega)) ?_
    rintro _ _ ⟨s2, hst, rfl, rfl⟩
    refine TL_y rfl rfl (Y_not rfl) ?_
    refine TL_nil ?_
    refine T_cond rfl (fun h13 => ?_) (fun h13 => ?_)
    · have hs2 : stop s2 = true := by simpa using h13
      refine T_ret ?_
      refine inB_ret ?_
      refine thenS_ret ?_
      refine inB_ret ?_
      refine RetQ.gives (endr it) ?_
      exact RetG_0 (.inl rfl) rfl GivesTo.g (⟨_, s2, fun h => (by rw [hs2] at h; cases h), hr.snoc h0 hs hst, rfl⟩)
    · have hs2 : stop s2 = false := by simpa using h13
      refine T_skip ?_
      refine inB_normal ?_
      refine thenS_normal ?_
      exact ⟨(done ++ [q1], s2), ⟨by rw [List.map_append]; exact hr.snoc h0 hs hst, hs2, by rw [hcnt _ _ _ hst, hc]; simp⟩, by simp only [List.length_append, List.length_cons, List.length_nil]; omega, holds_to (sub_cons rfl (sub_cons rfl (sub_nil))) GivesTo.g⟩
theorem keysQ_iter {β : Type} {R : Rep β} {ag : Bool} {b bx : Nat} {m : List (ByteArray × β)} : IterC Try.prog (.func (.func 71) #[] #[.pointer (some ⟨bx, 0, none⟩)]) (fun k : ByteArray => [.string k]) (fun k => k.size ≤ maxEl) m.length [cells bx [.map (some b)] 68, omap strK R ag b m] (fun s ks => s = false → ks.Perm (m.map (·.1))) :=
  ⟨_, [], [.pointer (some ⟨bx, 0, none⟩)], rfl, inferInstance, fun τ l C step stop cnt s0 Lx h0 hc hcnt hy => (keysQ1_spec h0 hc hcnt hy).cases_ fun v L' ⟨xs, s', a1, a2, a3⟩ => ⟨xs, s', a1, a2, a3⟩⟩
theorem keysQ_spec {L : List HP} {b : Nat} : Fn Try.prog 40 #[.map (some b)] L (fun v L' => ∃ bx, v = .func (.func 71) #[] #[.pointer (some ⟨bx, 0, none⟩)] ∧ L' = cells bx [.map (some b)] 68 :: L) := by
  refine Fn_enter Try.func40 rfl rfl rfl rfl ?_
  refine T_region ?_
  refine TL_box rfl rfl rfl ?_
  intro b1
  refine TL_y rfl rfl (Y_assign rfl) ?_
  refine TL_nil ?_
  refine T_region ?_
  refine TL_y rfl rfl (Y_make_func rfl rfl) ?_
  refine TL_y rfl rfl (Y_assign rfl) ?_
  refine TL_nil ?_
  refine T_ret ?_
  exact RetG_1 (.inl rfl) rfl (ResV.tmp rfl) GivesTo.g (⟨b1, rfl, rfl⟩)
end Go.SL
set_option linter.unusedVariables false
set_option linter.unusedSimpArgs false
namespace Go.SL
open Go Go.Proofs
open Go.WideMaps (KeyLaw)
def dotK : KeyT DotD := ⟨fun k => .agg #[.int .i64 k.1, .int .i64 k.2], fun k => intIn .i64 k.1 ∧ intIn .i64 k.2, fun a b h => by
  have h1 := (Value.agg.injEq _ _).mp h
  simp at h1
  exact Prod.ext h1.1 h1.2⟩
theorem dot_row : (26 : TypeId) < Try.prog.types.size := of_decide_eq_true (by kernel_rfl)
theorem dot_wide : (match Try.prog.underlying 26 with | some (.array _ _) | some (.struct _) => true | _ => false) = true := by rw [Try.underlying26]
set_option maxRecDepth 100000 in
theorem dot_law : KeyLaw Try.prog 26 := deep_law_laid ct_laid (m := 2) (by omega) dot_row (by kernel_rfl) dot_wide
theorem dot_cells : Try.prog.cellsOf 26 = 2 := by kernel_rfl
theorem int_cells : Try.prog.cellsOf 3 = 1 := by kernel_rfl
theorem dot_key : Try.prog.keyType 26 = true := by kernel_rfl
set_option maxRecDepth 100000 in
theorem dot_of (k : DotD) (h : dotK.ok k) : ∃ l, keyOf Try.prog 26 (dotK.enc k) = some l := by
  obtain ⟨q, hq⟩ := ct_types
  have h1 := wf_of_in h.1
  have h2 := wf_of_in h.2
  have hf : (dotK.enc k).formed Try.prog 26 = true := by simp [dotK, Value.formed, Try.underlying26, dot_cells]
  refine ⟨.string (keyBytes [.int .i64 k.1, .int .i64 k.2]), ?_⟩
  unfold keyOf
  rw [Try.underlying26]
  simp only [dot_key, hf, Bool.and_self, if_true]
  rw [hq]
  simp [dotK, Program.keyLits, Try.underlying26, Try.underlying3, dot_cells, int_cells, Value.cells, h1, h2]
instance : KeyOk Try.prog 26 dotK := ⟨Maps.Keyed.of_law dot_law, dot_of⟩
abbrev onF (bs bm : Nat) (seen : List DotD) (m : List (DotD × Bool)) : List HP := [cells bs [.map (some bm)] 96, omap dotK boolR false bm m, pure (∀ d, (getM m d).getD false = decide (d ∈ seen))]
def wOnce (bs bm : Nat) (seen : List DotD) : HP := exH (onF bs bm seen)
section
variable {r : Option Nat} {n : Nat} {P : Program} {ops : Array Oper} {rest : List Oper} {K : St → Prop} {Q : Exit → St → Prop} {D : List Deferred} {E : Env} {L : List HP} {bs bm : Nat} {seen : List DotD}
theorem T_wOnce {c : Code} (h : ∀ m : List (DotD × Bool), (∀ d, (getM m d).getD false = decide (d ∈ seen)) → T r n P c ⟨D, E, cells bs [.map (some bm)] 96 :: omap dotK boolR false bm m :: L⟩ Q) : T r n P c ⟨D, E, wOnce bs bm seen :: L⟩ Q := T_exH (f := onF bs bm seen) fun m => T_pull 2 rfl (T_fact (Knows.head' (φ := fun _ => ∀ d, (getM m d).getD false = decide (d ∈ seen)) fun _ _ h => h) (fun _ h => h) fun hm => T_gives (Gives.drop _ _) (h m hm))
theorem wOnce_close {m : List (DotD × Bool)} (h : ∀ d, (getM m d).getD false = decide (d ∈ seen)) : Gives (cells bs [.map (some bm)] 96 :: omap dotK boolR false bm m :: L) (wOnce bs bm seen :: L) :=
  Gives.trans (Gives.cons _ (Gives.cons _ (Gives.pure_intro h))) (exH_close (f := onF bs bm seen) m)
end
theorem once1_spec {L : List HP} {bs bm : Nat} {seen : List DotD} (e : EventD) (q : Option Addr × Nat) (ho : eventOk e) : Fn Try.prog 68 #[evV e q, .pointer (some ⟨bs, 0, none⟩)] (wOnce bs bm seen :: L) (fun v L' => v = .bool (!decide (e.dot ∈ seen)) ∧ L' = wOnce bs bm (e.dot :: seen) :: L) := by
  refine Fn_enter Try.func68 rfl rfl rfl rfl ?_
  refine T_wOnce fun m hm => ?_
  refine T_region ?_
  refine TL_box rfl rfl rfl ?_
  intro b2
  refine TL_y rfl rfl (Y_assign rfl) ?_
  refine TL_nil ?_
  refine T_region ?_
  refine TL_y rfl rfl (Y_load rfl rfl) ?_
  refine TL_y rfl rfl (Y_field_addr rfl) ?_
  refine TL_y rfl rfl (Y_load_agg rfl rfl) ?_
  refine TL_y rfl rfl (Y_lookup (K := dotK) (R := boolR) (k := e.dot) rfl rfl ⟨ho.1, ho.2.1⟩) ?_
  refine TL_name 8 (v' := .bool (decide (e.dot ∈ seen))) rfl (by rw [← hm e.dot]; cases getM m e.dot <;> rfl) ?_
  refine TL_y rfl rfl (Y_assign rfl) ?_
  refine TL_nil ?_
  refine T_region ?_
  refine TL_y rfl rfl (Y_load rfl rfl) ?_
  refine TL_y rfl rfl (Y_field_addr rfl) ?_
  refine TL_y rfl rfl (Y_load_agg rfl rfl) ?_
  refine TL_update (K := dotK) (R := boolR) (k := e.dot) (u := true) (cs := [.bool true]) ((e.dot, true) :: delM m e.dot) rfl rfl rfl ⟨ho.1, ho.2.1⟩ (Knows.const fun M => rfl) (List.Perm.refl _) ?_
  refine TL_nil ?_
  refine T_region ?_
  refine TL_y rfl rfl (Y_move rfl) ?_
  refine TL_y rfl rfl (Y_not_d rfl) ?_
  refine TL_y rfl rfl (Y_assign rfl) ?_
  refine TL_nil ?_
  refine T_ret ?_
  have hm2 : ∀ d, (getM ((e.dot, true) :: delM m e.dot) d).getD false = decide (d ∈ e.dot :: seen) := (fun d => by rw [getM_cons, getM_del]; by_cases hd : e.dot = d; (subst hd; simp); (rw [if_neg hd, if_neg (fun h => hd h.symm), hm d]; simp [show d ≠ e.dot from fun h => hd h.symm]))
  refine RetQ.gives (show Gives _ (cells bs [.map (some bm)] 96 :: omap dotK boolR false bm ((e.dot, true) :: delM m e.dot) :: L) from GivesTo.g) ?_
  refine RetQ.gives (wOnce_close hm2) ?_
  exact RetG_1 (.inl rfl) rfl (ResV.tmp rfl) GivesTo.g (⟨congrArg Value.bool (by simp), rfl⟩)
theorem once_spec {L : List HP} {A : Option Addr} {c : Nat} {l : List EventD} (hk : SlK L eventR A c l) (hl : l.length ≤ 1466015503701) : Fn Try.prog 38 #[.slice A l.length c] L (fun v L' => ∃ A' c', v = .slice A' (onceC l).length c' ∧ L' = osl eventR 29 A' c' (onceC l) :: L) := by
  refine Fn_enter Try.func38 rfl rfl rfl rfl ?_
  refine T_gives hk.lay ?_
  refine T_region ?_
  refine TL_y rfl rfl (Y_assign rfl) ?_
  refine TL_nil ?_
  refine T_region ?_
  refine TL_makeMap dotK boolR false rfl ?_
  intro bm
  refine TL_alloc rfl rfl ?_
  intro b3
  refine TL_store rfl rfl rfl rfl rfl rfl ?_
  refine TL_nil ?_
  refine T_region ?_
  refine TL_y rfl rfl (Y_move rfl) ?_
  refine TL_y rfl rfl (Y_make_func rfl rfl) ?_
  refine TL_gives (show Gives _ (wOnce b3 bm [] :: sl eventR A c l :: L) from wOnce_close (m := []) (fun d => rfl)) ?_
  refine TL_call rfl rfl (where_spec (σ := List DotD) (fun seen ↦ wOnce b3 bm seen) (fun seen e ↦ !decide (e.dot ∈ seen)) (fun seen e ↦ e.dot :: seen) 68 [.pointer (some ⟨b3, 0, none⟩)] [] (fun s e q L1 _ ho hk1 ↦ once1_spec e q ho) slk hl) ?_
  rintro _ _ ⟨A7, c7, rfl, rfl⟩
  rw [show (whr (fun (seen : List DotD) e => !decide (e.dot ∈ seen)) (fun seen e => e.dot :: seen) [] l).1 = onceC l from whr_once l []]
  refine TL_y rfl rfl (Y_assign rfl) ?_
  refine TL_nil ?_
  refine T_ret ?_
  exact RetG_1 (.inl rfl) rfl (ResV.tmp rfl) GivesTo.g (⟨A7, c7, rfl, rfl⟩)
end Go.SL
set_option linter.unusedVariables false
set_option linter.unusedSimpArgs false
namespace Go.SL
open Go Go.Proofs
abbrev lineC (t : LineD) : List Value := [.string t.1, .int .i64 t.2]
def lineOk (t : LineD) : Prop := t.1.size ≤ maxEl ∧ intIn .i64 t.2
def lineR : Rep LineD := ⟨2, fun _ a cs => cs = lineC a ∧ lineOk a, fun _ h => h, fun h => by rw [h.1]; rfl, fun h v hv => by rw [h.1] at hv; simp at hv; rcases hv with rfl | rfl <;> rfl⟩
instance : RepF lineR lineC := ⟨fun _ _ _ h => h.1⟩
theorem srtS_inc {xs : List ByteArray} (h : xs.Nodup) : (srtS xs).Pairwise strLt := by
  have h2 : (srtL (xs.map dataL)).Pairwise (fun x y => x ≤ y) := by
    have := List.pairwise_mergeSort (le := fun x y : List UInt8 => decide (x ≤ y)) (fun a b c h1 h2 => by simp at h1 h2 ⊢; exact List.le_trans h1 h2) (fun a b => by simp; exact List.le_total a b) (xs.map dataL)
    exact this.imp fun h => by simpa using h
  have h3 : (srtS xs).Pairwise fun x y => dataL x ≤ dataL y := by
    unfold srtS
    refine List.pairwise_map.2 (h2.imp fun h => ?_)
    exact h
  have h4 : (srtS xs).Nodup := (srtS_perm xs).nodup_iff.2 h
  refine (h3.and h4).imp fun {a b} ⟨h5, h6⟩ => ?_
  rcases List.le_iff_lt_or_eq.1 h5 with h7 | h7
  · exact h7
  · exact absurd (by rw [← undata_data a, ← undata_data b, h7]) h6
/-! ### Sums by their articles -/
def sumM (m : List (ByteArray × Int)) : Int := (m.map fun p => p.2).sum
structure SumI (xs : List EventD) (cart : ByteArray) (m : List (ByteArray × Int)) : Prop where
  at_ : ∀ k, (getM m k).getD 0 = sumC (xs.filter (ofC cart k))
  tot : sumM m = sumC (xs.filter fun e => decide (e.cart = cart))
theorem sumM_perm {a b : List (ByteArray × Int)} (h : a.Perm b) : sumM a = sumM b := by
  unfold sumM
  induction h with
  | nil => rfl
  | cons x _ ih => simp [ih]
  | swap x y l => simp; omega
  | trans _ _ h1 h2 => exact h1.trans h2
theorem sumM_del {m : List (ByteArray × Int)} (hn : ND m) (k : ByteArray) : sumM m = (getM m k).getD 0 + sumM (delM m k) := by
  cases hg : getM m k with
  | none => rw [del_none hg]; simp
  | some u =>
    obtain ⟨j, hj⟩ := List.getElem?_of_mem (getM_mem hg)
    have h1 : m.Perm ((k, u) :: m.eraseIdx j) := by
      have := set_perm (p := (k, u)) (List.getElem?_eq_some_iff.1 hj).1
      rwa [set_same hj] at this
    rw [sumM_perm h1, ← delM_erase hn hj]
    simp [sumM]
theorem SumI.skip {xs : List EventD} {cart : ByteArray} {m : List (ByteArray × Int)} {i : Nat} {e : EventD} (h : SumI (xs.take i) cart m) (he : xs[i]? = some e) (hc : ¬ e.cart = cart) : SumI (xs.take (i + 1)) cart m := by
  refine ⟨fun k => ?_, ?_⟩
  · rw [h.at_ k, takeAt he, List.filter_append]
    have : ofC cart k e = false := by simp [ofC, hc]
    simp [this]
  · rw [h.tot, takeAt he, List.filter_append]
    simp [hc]
theorem SumI.put {xs : List EventD} {cart : ByteArray} {m : List (ByteArray × Int)} {i : Nat} {e : EventD} (h : SumI (xs.take i) cart m) (he : xs[i]? = some e) (hc : e.cart = cart) (hn : ND m) {x : Int} (hx : (getM m e.sku).getD 0 = x) : SumI (xs.take (i + 1)) cart ((e.sku, x + e.qty) :: delM m e.sku) := by
  have hx2 : x + sumM (delM m e.sku) = sumM m := by rw [sumM_del hn e.sku, hx]
  have hx3 := h.at_ e.sku
  rw [hx] at hx3
  refine ⟨fun k => ?_, ?_⟩
  · rw [getM_cons, getM_del, takeAt he, List.filter_append, sumC_app]
    by_cases hk : e.sku = k
    · subst hk
      have : ofC cart e.sku e = true := by simp [ofC, hc]
      rw [if_pos rfl, ← hx3]
      simp [this, sumC]
    · have : ofC cart k e = false := by simp [ofC, hk]
      rw [if_neg hk, if_neg (fun h => hk h.symm), h.at_ k]
      simp [this, sumC]
  · rw [takeAt he, List.filter_append, sumC_app, ← h.tot, ← hx2]
    simp [hc, sumM, sumC]
    omega
/-! ### Lines of sums -/
def lineO (m : List (ByteArray × Int)) (k : ByteArray) : Option LineD := if 0 < (getM m k).getD 0 then some (k, (getM m k).getD 0) else none
def linesM (m : List (ByteArray × Int)) (ks : List ByteArray) : List LineD := ks.filterMap (lineO m)
theorem linesM_snoc {m : List (ByteArray × Int)} {ks : List ByteArray} {i : Nat} {k : ByteArray} (h : ks[i]? = some k) : linesM m (ks.take (i + 1)) = linesM m (ks.take i) ++ if 0 < (getM m k).getD 0 then [(k, (getM m k).getD 0)] else [] := by
  unfold linesM
  rw [takeAt h, List.filterMap_append]
  by_cases hq : 0 < (getM m k).getD 0 <;> simp [lineO, hq]
theorem linesM_len (m : List (ByteArray × Int)) (ks : List ByteArray) : (linesM m ks).length ≤ ks.length := List.length_filterMap_le _ _
theorem linesM_sum {m : List (ByteArray × Int)} (hn : ND m) (hpos : ∀ k, 0 ≤ (getM m k).getD 0) : ((linesM m (m.map fun p => p.1)).map fun p => p.2).sum = sumM m := by
  have key : ∀ l : List (ByteArray × Int), (∀ p ∈ l, getM m p.1 = some p.2) → ((linesM m (l.map fun p => p.1)).map fun p => p.2).sum = sumM l := by
    intro l
    induction l with
    | nil => intro _; rfl
    | cons p r ih =>
      intro h
      have h1 := h p List.mem_cons_self
      have h2 := ih fun q hq => h q (List.mem_cons_of_mem _ hq)
      have h3 := hpos p.1
      unfold linesM at h2 ⊢
      rw [List.map_cons, List.filterMap_cons]
      unfold lineO
      rw [h1] at h3 ⊢
      simp only [Option.getD_some] at h3 ⊢
      unfold lineO at h2
      by_cases hq : 0 < p.2
      · rw [if_pos hq]; simp only [List.map_cons, List.sum_cons, sumM]; rw [h2]; rfl
      · rw [if_neg hq]; rw [h2]; simp only [sumM, List.map_cons, List.sum_cons]; omega
  exact key m fun p hp => getM_of_mem hn hp
theorem sumL_perm {a b : List LineD} (h : a.Perm b) : (a.map fun p => p.2).sum = (b.map fun p => p.2).sum := sumM_perm h
theorem isLines_of {l : List EventD} {cart : ByteArray} {m : List (ByteArray × Int)} {ks : List ByteArray} (hq : ∀ e ∈ l, 0 ≤ e.qty ∧ e.qty ≤ 1000) (h : SumI (countC l) cart m) (hn : ND m) (hk : ks.Perm (m.map fun p => p.1)) : IsLines l cart (linesM m (srtS ks)) := by
  have hnk : (m.map fun p => p.1).Nodup := List.pairwise_map.2 hn
  have hnd : ks.Nodup := hk.nodup_iff.2 hnk
  have hat : ∀ k, (getM m k).getD 0 = lineF l cart k := fun k => h.at_ k
  have hpos : ∀ k, 0 ≤ (getM m k).getD 0 := fun k => by rw [hat]; exact (lineF_bound hq cart k).1
  refine ⟨?_, fun k q => ?_, ?_⟩
  · unfold linesM
    refine List.pairwise_filterMap.2 ((srtS_inc hnd).imp fun {a b} hab x hx y hy => ?_)
    unfold lineO at hx hy
    split at hx
    · split at hy
      · cases hx; cases hy; exact hab
      · cases hy
    · cases hx
  · unfold linesM
    rw [List.mem_filterMap]
    constructor
    · rintro ⟨a, _, hx⟩
      unfold lineO at hx
      split at hx
      · rename_i h0
        cases hx
        exact ⟨hat k, h0⟩
      · cases hx
    · rintro ⟨rfl, h0⟩
      refine ⟨k, ?_, by unfold lineO; rw [hat, if_pos h0]⟩
      rw [(srtS_perm ks).mem_iff, hk.mem_iff]
      cases hg : getM m k with
      | none => rw [← hat, hg] at h0; simp at h0
      | some u => exact List.mem_map.2 ⟨_, getM_mem hg, rfl⟩
  · have h1 : (linesM m (srtS ks)).Perm (linesM m (m.map fun p => p.1)) := ((srtS_perm ks).trans hk).filterMap _
    rw [sumL_perm h1, linesM_sum hn hpos, h.tot]
theorem del_leB {κ α : Type} [DecidableEq κ] (m : List (κ × α)) (k : κ) : (delM m k).length ≤ m.length := List.length_filter_le _ _
structure LnSt where
  i : Nat
  A : Option Addr
  c : Nat
structure SmSt where
  i : Nat
  m : List (ByteArray × Int)
theorem onceC_len (l : List EventD) : (onceC l).length ≤ l.length := by
  have : ∀ (l : List EventD) (seen : List DotD), (onceS seen l).length ≤ l.length := by
    intro l
    induction l with
    | nil => intro seen; simp [onceS]
    | cons x r ih =>
      intro seen
      unfold onceS
      split
      · have := ih seen; simp only [List.length_cons]; omega
      · have := ih (x.dot :: seen); simp only [List.length_cons]; omega
  exact this _ _
theorem countC_len (l : List EventD) : (countC l).length ≤ l.length := Nat.le_trans (onceC_len _) (List.length_filter_le _ _)
theorem take_sum_bound {xs : List EventD} (h : ∀ e ∈ xs, 0 ≤ e.qty ∧ e.qty ≤ 1000) (i : Nat) (p : EventD → Bool) : 0 ≤ sumC ((xs.take i).filter p) ∧ sumC ((xs.take i).filter p) ≤ 1000 * (xs.length : Int) := by
  have h1 := sumC_bound (l := (xs.take i).filter p) fun e he => h e (List.mem_of_mem_take (List.mem_filter.1 he).1)
  have h2 : ((xs.take i).filter p).length ≤ xs.length := Nat.le_trans (List.length_filter_le _ _) (by rw [List.length_take]; omega)
  omega
theorem lines_spec {L : List HP} {A : Option Addr} {c : Nat} {l : List EventD} (cart : ByteArray) (hk : SlK L eventR A c l) (hl : l.length ≤ 1099511627776) (hq : ∀ e ∈ l, 0 ≤ e.qty ∧ e.qty ≤ 1000) : Fn Try.prog 16 #[.slice A l.length c, .string cart] L (fun v L' => ∃ A' c' xs, v = .slice A' xs.length c' ∧ L' = osl lineR 65 A' c' xs :: L ∧ IsLines l cart xs ∧ xs.length ≤ l.length) := by
  have hcl := countC_len l
  have hcq : ∀ e ∈ countC l, 0 ≤ e.qty ∧ e.qty ≤ 1000 := fun e he => hq e (mem_stand.1 (onceC_sub he)).1
  refine Fn_enter Try.func16 rfl rfl rfl rfl ?_
  refine T_gives (SlK.lay hk) ?_
  refine T_region ?_
  refine TL_y rfl rfl (Y_assign rfl) ?_
  refine TL_nil ?_
  refine T_region ?_
  refine TL_makeMap strK (intR .i64) false rfl ?_
  intro bm
  refine TL_y rfl rfl (Y_assign rfl) ?_
  refine TL_nil ?_
  refine T_seq ?_
  refine T_region ?_
  refine TL_y rfl rfl (Y_move rfl) ?_
  refine TL_call rfl rfl (stand_spec (slk (A := A) (c := c)) (by omega)) ?_
  rintro _ _ ⟨A13, c13, rfl, rfl⟩
  refine TL_freeze_osl ?_
  refine TL_call rfl rfl (once_spec (slk (A := A13) (c := c13)) (Nat.le_trans (List.length_filter_le _ _) (by omega))) ?_
  rintro _ _ ⟨A14, c14, rfl, rfl⟩
  refine TL_freeze_osl ?_
  rw [show onceC (standC l) = countC l from rfl]
  refine TL_y rfl rfl (Y_len rfl) ?_
  refine TL_y rfl rfl (Y_move rfl) ?_
  refine TL_nil ?_
  refine T_block ?_
  refine T_loopK (σ := SmSt) [1, 5, 14, 15] (fun g => g.i ≤ (countC l).length ∧ SumI ((countC l).take g.i) cart g.m ∧ g.m.length ≤ g.i) (fun g kv => (16, .int .i64 (g.i : Int)) :: kv) (fun g => omap strK (intR .i64) false bm g.m :: sl eventR A14 c14 (countC l) :: L) (fun g => (countC l).length - g.i) (⟨0, []⟩) rfl (⟨Nat.zero_le _, ⟨fun k => rfl, rfl⟩, Nat.le_refl _⟩) (GivesTo.g) (sub_cons rfl (sub_cons rfl (sub_cons rfl (sub_cons rfl (sub_cons rfl (sub_nil)))))) ?_
  rintro ⟨i, m⟩ ⟨hil, hI, hmi⟩
  dsimp only at hil hI hmi ⊢
  have hmn : m.length ≤ l.length := (by omega)
  refine T_region ?_
  refine TL_y rfl rfl (Y_lt rfl rfl) ?_
  refine TL_nil ?_
  refine T_seq ?_
  refine T_if rfl (fun h17 => ?_) (fun h17 => ?_)
  · refine T_skip ?_
    refine thenS_normal ?_
    refine T_seq ?_
    refine T_block ?_
    obtain ⟨e, he⟩ : ∃ e, (countC l)[i]? = some e := ⟨_, List.getElem?_eq_getElem (by omega)⟩
    have heq := hcq e (List.mem_of_getElem? he)
    refine T_nd (b := bm) fun hnd => ?_
    have hsb := take_sum_bound hcq i (ofC cart e.sku)
    rw [← hI.at_] at hsb
    refine T_region ?_
    refine TL_index_n rfl rfl rfl (rfl) ((sln (A := A14) (c := c14))) (he) ?_
    intro bn18 on18 hA18 hk18
    have hu18 := he
    refine TL_load_nx rfl rfl hk18 hu18 (fun _ => rfl) ?_
    intro p19 ok19
    simp only [List.cons_append, List.nil_append]
    refine TL_alloc rfl rfl ?_
    intro b7
    refine TL_store rfl rfl rfl rfl rfl rfl ?_
    refine TL_nil ?_
    refine T_region ?_
    refine TL_y rfl rfl (Y_field_addr rfl) ?_
    refine TL_y rfl rfl (Y_load rfl rfl) ?_
    refine TL_y rfl rfl (Y_move rfl) ?_
    refine TL_y rfl rfl (Y_str_eq rfl rfl) ?_
    refine TL_nil ?_
    refine T_if rfl (fun h23 => ?_) (fun h23 => ?_)
    · refine T_region_last ?_
      refine TL_y rfl rfl (Y_move rfl) ?_
      refine TL_y rfl rfl (Y_field_addr rfl) ?_
      refine TL_y rfl rfl (Y_load rfl rfl) ?_
      refine TL_y rfl rfl (Y_lookup (K := strK) (R := intR .i64) (k := e.sku) rfl rfl ok19.2.2.2.2.2.1) ?_
      refine TL_name 27 (v' := .int .i64 ((getM m e.sku).getD 0)) rfl (by cases getM m e.sku <;> rfl) ?_
      refine TL_y rfl rfl (Y_field_addr rfl) ?_
      refine TL_y rfl rfl (Y_load rfl rfl) ?_
      refine TL_y rfl rfl (Y_add rfl rfl (by omega)) ?_
      refine TL_update (K := strK) (R := intR .i64) (k := e.sku) (u := (getM m e.sku).getD 0 + e.qty) (cs := [.int .i64 ((getM m e.sku).getD 0 + e.qty)]) ((e.sku, (getM m e.sku).getD 0 + e.qty) :: delM m e.sku) rfl rfl rfl ok19.2.2.2.2.2.1 (Knows.const fun M => ⟨rfl, i64In_mk (by omega)⟩) (List.Perm.refl _) ?_
      refine TL_nil ?_
      refine inB_normal ?_
      refine thenS_normal ?_
      refine T_region_last ?_
      refine TL_y rfl rfl (Y_add rfl rfl (by omega)) ?_
      refine TL_name 31 (v' := .int .i64 ((i + 1 : Nat) : Int)) rfl (rfl) ?_
      refine TL_y rfl rfl (Y_move rfl) ?_
      refine TL_nil ?_
      refine thenS_normal ?_
      exact ⟨⟨i + 1, (e.sku, (getM m e.sku).getD 0 + e.qty) :: delM m e.sku⟩, ⟨by simp only; omega, hI.put he h23 hnd rfl, by have := del_leB m e.sku; simp only [List.length_cons]; omega⟩, by simp only; omega, holds_to (sub_cons rfl (sub_cons rfl (sub_cons rfl (sub_cons rfl (sub_cons rfl (sub_nil)))))) GivesTo.g⟩
    · refine T_skip ?_
      refine inB_normal ?_
      refine thenS_normal ?_
      refine T_region_last ?_
      refine TL_y rfl rfl (Y_add rfl rfl (by omega)) ?_
      refine TL_name 31 (v' := .int .i64 ((i + 1 : Nat) : Int)) rfl (rfl) ?_
      refine TL_y rfl rfl (Y_move rfl) ?_
      refine TL_nil ?_
      refine thenS_normal ?_
      exact ⟨⟨i + 1, m⟩, ⟨by simp only; omega, hI.skip he h23, by simp only; omega⟩, by simp only; omega, holds_to (sub_cons rfl (sub_cons rfl (sub_cons rfl (sub_cons rfl (sub_cons rfl (sub_nil)))))) GivesTo.g⟩
  · refine T_exit ?_
    refine thenS_exit ?_
    refine thenS_exit ?_
    refine inB_hit ?_
    refine thenS_normal ?_
    rw [List.take_of_length_le (show (countC l).length ≤ i by omega)] at hI
    refine T_nd (b := bm) fun hnd => ?_
    refine T_region ?_
    refine TL_y rfl rfl (Y_assign rfl) ?_
    refine TL_nil ?_
    refine T_seq ?_
    refine T_region ?_
    refine TL_y rfl rfl (Y_move rfl) ?_
    refine TL_call rfl rfl (keysQ_spec) ?_
    rintro _ _ ⟨bx, rfl, rfl⟩
    refine TL_gives (show Gives _ (cells bx [.map (some bm)] 68 :: omap strK (intR .i64) false bm m :: sl eventR A14 c14 (countC l) :: L) from GivesTo.g) ?_
    refine TL_call rfl rfl (sortedS_spec (Lf := [cells bx [.map (some bm)] 68, omap strK (intR .i64) false bm m]) (Lr := sl eventR A14 c14 (countC l) :: L) (keysQ_iter (R := intR .i64) (ag := false) (b := bm) (bx := bx) (m := m)) (by omega)) ?_
    rintro _ _ ⟨A34, c34, ks, rfl, hperm, rfl⟩
    simp only [List.cons_append, List.nil_append]
    refine TL_freeze_osl ?_
    have hkp := hperm rfl
    have hkl : (srtS ks).length ≤ l.length := (by rw [srtS_length, hkp.length_eq, List.length_map]; exact hmn)
    refine TL_y rfl rfl (Y_len rfl) ?_
    refine TL_y rfl rfl (Y_move rfl) ?_
    refine TL_nil ?_
    refine T_block ?_
    refine T_loopK (σ := LnSt) [5, 34, 35] (fun g => g.i ≤ (srtS ks).length) (fun g kv => (36, .int .i64 (g.i : Int)) :: (8, .slice g.A (linesM m ((srtS ks).take g.i)).length g.c) :: kv) (fun g => osl lineR 65 g.A g.c (linesM m ((srtS ks).take g.i)) :: omap strK (intR .i64) false bm m :: sl strR A34 c34 (srtS ks) :: L) (fun g => (srtS ks).length - g.i) (⟨0, none, 0⟩) rfl (Nat.zero_le _) (Gives.trans (show Gives _ (omap strK (intR .i64) false bm m :: sl strR A34 c34 (srtS ks) :: L) from GivesTo.g) (osl_nil lineR 65 none _)) (sub_cons rfl (sub_cons rfl (sub_cons rfl (sub_cons rfl (sub_cons rfl (sub_nil)))))) ?_
    rintro ⟨j, X, cx⟩ hjl
    dsimp only at hjl ⊢
    skip
    refine T_region ?_
    refine TL_y rfl rfl (Y_lt rfl rfl) ?_
    refine TL_nil ?_
    refine T_seq ?_
    refine T_if rfl (fun h37 => ?_) (fun h37 => ?_)
    · refine T_skip ?_
      refine thenS_normal ?_
      refine T_seq ?_
      refine T_block ?_
      obtain ⟨k, hk1⟩ : ∃ k, (srtS ks)[j]? = some k := ⟨_, List.getElem?_eq_getElem (by omega)⟩
      have hsn := linesM_snoc (m := m) hk1
      have hll := linesM_len m ((srtS ks).take j)
      rw [List.length_take] at hll
      have hsb : 0 ≤ (getM m k).getD 0 ∧ (getM m k).getD 0 ≤ 1000 * (l.length : Int) := (by rw [hI.at_]; have := take_sum_bound hcq (countC l).length (ofC cart k); rw [List.take_of_length_le (Nat.le_refl _)] at this; omega)
      refine T_elem_fact (sln (A := A34) (c := c34)) hk1 (p := k.size ≤ maxEl) (fun M l h => h.2) fun hks => ?_
      refine T_region ?_
      refine TL_index_n rfl rfl rfl (rfl) ((sln (A := A34) (c := c34))) (hk1) ?_
      intro bn38 on38 hA38 hk38
      have hu38 := hk1
      refine TL_y rfl rfl (Y_load_n rfl hk38 hu38 rfl) ?_
      refine TL_y rfl rfl (Y_assign rfl) ?_
      refine TL_nil ?_
      refine T_region ?_
      refine TL_y rfl rfl (Y_move rfl) ?_
      refine TL_y rfl rfl (Y_move rfl) ?_
      refine TL_y rfl rfl (Y_lookup (K := strK) (R := intR .i64) (k := k) rfl rfl hks) ?_
      refine TL_name 42 (v' := .int .i64 ((getM m k).getD 0)) rfl (by cases getM m k <;> rfl) ?_
      refine TL_y rfl rfl (Y_gt rfl rfl) ?_
      refine TL_nil ?_
      refine T_if rfl (fun h43 => ?_) (fun h43 => ?_)
      · rw [if_pos h43] at hsn
        refine T_region_last ?_
        refine TL_y rfl rfl (Y_move rfl) ?_
        refine TL_y rfl rfl (Y_move rfl) ?_
        refine TL_y rfl rfl (Y_move rfl) ?_
        refine TL_y rfl rfl (Y_move rfl) ?_
        refine TL_y rfl rfl (Y_lookup (K := strK) (R := intR .i64) (k := k) rfl rfl hks) ?_
        refine TL_name 48 (v' := .int .i64 ((getM m k).getD 0)) rfl (by cases getM m k <;> rfl) ?_
        refine TL_y rfl rfl (Y_build rfl rfl) ?_
        refine TL_build_slice rfl rfl rfl rfl rfl rfl ?_
        intro b50
        refine TL_osl (k := 1) lineR [(k, (getM m k).getD 0)] (Knows.const fun M => ⟨[.string k, .int .i64 ((getM m k).getD 0)], [], ⟨rfl, hks, i64In_mk (by omega)⟩, rfl, rfl⟩) rfl (by decide) ?_
        refine TL_freeze_osl ?_
        refine TL_name 50 (v' := .slice (some ⟨b50, 0, none⟩) [((k, (getM m k).getD 0) : LineD)].length 1) rfl rfl ?_
        refine TL_append rfl rfl rfl rfl rfl slk (by simp only [List.length_cons, List.length_nil]; omega) ?_
        intro A51 c51
        rw [← hsn]
        refine TL_y rfl rfl (Y_assign rfl) ?_
        refine TL_nil ?_
        refine inB_normal ?_
        refine thenS_normal ?_
        refine T_region_last ?_
        refine TL_y rfl rfl (Y_add rfl rfl (by omega)) ?_
        refine TL_name 52 (v' := .int .i64 ((j + 1 : Nat) : Int)) rfl (rfl) ?_
        refine TL_y rfl rfl (Y_move rfl) ?_
        refine TL_nil ?_
        refine thenS_normal ?_
        exact ⟨⟨j + 1, A51, c51⟩, (by simp only; omega), by simp only; omega, holds_to (sub_cons rfl (sub_cons rfl (sub_cons rfl (sub_cons rfl (sub_cons rfl (sub_nil)))))) GivesTo.g⟩
      · rw [if_neg h43, List.append_nil] at hsn
        rw [← hsn]
        refine T_skip ?_
        refine inB_normal ?_
        refine thenS_normal ?_
        refine T_region_last ?_
        refine TL_y rfl rfl (Y_add rfl rfl (by omega)) ?_
        refine TL_name 52 (v' := .int .i64 ((j + 1 : Nat) : Int)) rfl (rfl) ?_
        refine TL_y rfl rfl (Y_move rfl) ?_
        refine TL_nil ?_
        refine thenS_normal ?_
        exact ⟨⟨j + 1, X, cx⟩, (by simp only; omega), by simp only; omega, holds_to (sub_cons rfl (sub_cons rfl (sub_cons rfl (sub_cons rfl (sub_cons rfl (sub_nil)))))) GivesTo.g⟩
    · refine T_exit ?_
      refine thenS_exit ?_
      refine thenS_exit ?_
      refine inB_hit ?_
      refine thenS_normal ?_
      refine T_region ?_
      refine TL_y rfl rfl (Y_move rfl) ?_
      refine TL_y rfl rfl (Y_assign rfl) ?_
      refine TL_nil ?_
      refine T_ret ?_
      rw [List.take_of_length_le (show (srtS ks).length ≤ j by omega)]
      have hres := isLines_of hq hI hnd hkp
      exact RetG_1 (.inl rfl) rfl (ResV.tmp rfl) GivesTo.g (⟨X, cx, linesM m (srtS ks), rfl, rfl, hres, Nat.le_trans (linesM_len _ _) hkl⟩)
end Go.SL
set_option linter.unusedVariables false
namespace Go.SL
open Go
variable {r : Option Nat} {n : Nat} {P : Program} {s : St} {Q : Exit → St → Prop}
theorem vs_adds {ops : Array Oper} {X : List (Nat × Nat)} : ∀ {l : List Nat} {p : Nat → Prop}, (∀ e ∈ X, ∀ s1 s2, l = s1 ++ e.2 :: s2 → e.1 ∈ s1 ∨ p e.1) → VS [] ops p l → VS X ops p l
  | [], _, _, _ => trivial
  | k :: r, p, h, ⟨h1, h2⟩ => by
    refine ⟨fun o ho e he => ?_, vs_adds (fun x hx s1 s2 e => ?_) h2⟩
    · rcases List.mem_append.1 he with he | he
      · exact h1 o ho e (by rw [depsX_nil]; exact he)
      · obtain ⟨x, hx, rfl⟩ := List.mem_map.1 he
        have hx := List.mem_filter.1 hx
        have hk : x.2 = k := Nat.eq_of_beq_eq_true hx.2
        rcases h x hx.1 [] r (by rw [hk]; rfl) with h | h
        · cases h
        · exact h
    · rcases h x hx (k :: s1) s2 (by rw [e]; rfl) with h | h
      · rcases List.mem_cons.1 h with h | h
        · exact .inr (.inl h)
        · exact .inl h
      · exact .inr (.inr h)
/-- The region, in whatever order that keeps the pairs of X. -/
def RD (r : Option Nat) (n : Nat) (P : Program) (l : List Oper) (X : List (Nat × Nat)) (s : St) (Q : Exit → St → Prop) : Prop :=
  ∀ W a w, Holds n W s a w → ∀ sched : List Nat, VS [] l.toArray (fun i => (Array.replicate l.length false).getD i false = true) sched → (∀ e ∈ X, ∀ s1 s2, sched = s1 ++ e.2 :: s2 → e.1 ∈ s1) → (∀ i, i < l.length → i ∈ sched) → sched.Nodup → (∀ i ∈ sched, i < l.length) → sched.length = l.length →
    wpOpsIn (Fw r) 0 P l.toArray (fun e a w => ∃ s', Q e s' ∧ Holds n W s' a w) sched a w
theorem RD_leaf {l : List Oper} {X : List (Nat × Nat)} (Fl : List HP) (B tl : List Nat) (π : List (Nat × Bool)) (hok : regionOk X l B tl π = true) (hFl : Gives s.L Fl) (h : TF r n P l.toArray tl Fl π s (fun s' => Q .normal s')) : RD r n P l X s Q := fun W a w hh sched k1 hX k2 k3 k4 k5 =>
  wpF_ops (fun a' w' s' hk hh' => ⟨s', hk, hh'⟩) _ _ _ (region_run Fl B tl π hok hFl h hh (vs_adds (fun e he s1 s2 h => .inl (hX e he s1 s2 h)) k1) k2 k3 k4 k5)
theorem RD_pair {l : List Oper} {X : List (Nat × Nat)} (i j : Nat) (hij : i ≠ j) (h1 : RD r n P l ((i, j) :: X) s Q) (h2 : RD r n P l ((j, i) :: X) s Q) : RD r n P l X s Q := fun W a w hh sched k1 hX k2 k3 k4 k5 => by
  rcases order_or hij sched with ho | ho
  · exact h1 W a w hh sched k1 (fun e he => by rcases List.mem_cons.1 he with rfl | he; exact ho; exact hX e he) k2 k3 k4 k5
  · exact h2 W a w hh sched k1 (fun e he => by rcases List.mem_cons.1 he with rfl | he; exact ho; exact hX e he) k2 k3 k4 k5
theorem T_rd_last {id : Nat} {l : List Oper} (B : List Nat) (hmix : P.follows .mixedOrders = true) (hm : masksOk [] B l 0 = true) (h : RD r n P l [] s Q) : T r n P (.region id l.toArray true) s Q := fun W a w hh => by
  refine wpIn_region_draw fun t => ?_
  simp only [Region.schedule, hmix, Bool.true_or, if_true]
  obtain ⟨k1, k2, k3, k4, k5⟩ := sched_ok hm l.length t (Array.replicate l.length false) (by simp) (unl_all l)
  have hlin : Region.linearise .any l.toArray t = Region.linearise.go .any l.toArray l.length t (Array.replicate l.length false) [] := by
    simp [Region.linearise]
  rw [hlin]
  exact h W a _ ⟨hh.1, hh.2.drew⟩ _ k1 (fun e he => by cases he) (fun i hi => k2 i hi (by simp [Array.getD_eq_getD_getElem?, hi])) k3 (fun i hi => (k4 i hi).1) k5
theorem T_rd {id : Nat} {l : List Oper} {y : Code} (B : List Nat) (hmix : P.follows .mixedOrders = true) (hm : masksOk [] B l 0 = true) (h : RD r n P l [] s (thenS (fun s' => T r n P y s' Q) Q)) : T r n P (.seq (.region id l.toArray true) y) s Q := T_seq (T_rd_last B hmix hm h)
end Go.SL
set_option linter.unusedVariables false
set_option linter.unusedSimpArgs false
namespace Go.SL
open Go Go.Proofs
theorem right_snoc {l : List EventD} {i : Nat} {x : EventD} (h : RightC (l.take i)) (hx : l[i]? = some x) (hq : 0 ≤ x.qty ∧ x.qty ≤ 1000) (hd : ∀ a ∈ l.take i, a.dot = x.dot → a = x) : RightC (l.take (i + 1)) := by
  rw [takeAt hx]
  refine ⟨fun e he => ?_, fun a ha b hb hab => ?_⟩
  · rcases List.mem_append.1 he with he | he
    · exact h.qty e he
    · rw [List.mem_singleton.1 he]; exact hq
  · rcases List.mem_append.1 ha with ha | ha
    · rcases List.mem_append.1 hb with hb | hb
      · exact h.one a ha b hb hab
      · rw [List.mem_singleton.1 hb] at hab ⊢; exact hd a ha hab
    · rcases List.mem_append.1 hb with hb | hb
      · rw [List.mem_singleton.1 ha] at hab ⊢; exact (hd b hb hab.symm).symm
      · rw [List.mem_singleton.1 ha, List.mem_singleton.1 hb]
theorem ofX_at {xs : List LineD} {i : Nat} {p : LineD} {sku : ByteArray} (h : xs[i]? = some p) (hp : p.1 = sku) (hn : ∀ q ∈ xs.take i, q.1 ≠ sku) : ofX xs sku = p.2 := by
  unfold ofX
  have e : xs = xs.take i ++ xs.drop i := (List.take_append_drop i xs).symm
  have hd : xs.drop i = p :: xs.drop (i + 1) := by
    rw [List.drop_eq_getElem_cons (List.getElem?_eq_some_iff.1 h).1, (List.getElem?_eq_some_iff.1 h).2]
  have h1 : (xs.take i).find? (fun p => decide (p.1 = sku)) = none := List.find?_eq_none.2 fun q hq => by simpa using hn q hq
  rw [e, List.find?_append, h1, hd, List.find?_cons_of_pos (by simpa using hp)]
  rfl
theorem ofX_none {xs : List LineD} {sku : ByteArray} (hn : ∀ q ∈ xs, q.1 ≠ sku) : ofX xs sku = 0 := by
  unfold ofX
  rw [List.find?_eq_none.2 fun q hq => by simpa using hn q hq]
theorem right11_spec {L : List HP} {A : Option Addr} {c : Nat} {l : List EventD} (hk : SlK L eventR A c l) : Fn Try.prog 13 #[.slice A l.length c] L (fun v L' => (∃ r : Bool, v = .bool r ∧ (r = true ↔ RightC l)) ∧ L' = L) := by
  refine Fn_enter Try.func13 rfl rfl rfl rfl ?_
  refine T_gives hk.lay ?_
  refine SlN.lens (sln (A := A) (c := c)) fun hl => ?_
  simp only [maxEl] at hl
  refine T_region ?_
  refine TL_y rfl rfl (Y_assign rfl) ?_
  refine TL_nil ?_
  refine T_seq ?_
  refine T_region ?_
  refine TL_y rfl rfl (Y_assign rfl) ?_
  refine TL_nil ?_
  refine T_block ?_
  refine T_loopK (σ := Nat) [0] (fun i => i ≤ l.length ∧ RightC (l.take i)) (fun i kv => (3, .int .i64 (i : Int)) :: kv) (fun i => sl eventR A c l :: L) (fun i => l.length - i) (0) rfl (⟨Nat.zero_le _, ⟨fun e h => by simp at h, fun a h => by simp at h⟩⟩) (GivesTo.g) (sub_cons rfl (sub_cons rfl (sub_nil))) ?_
  intro i hi
  refine T_seq ?_
  refine T_region ?_
  refine TL_y rfl rfl (Y_move rfl) ?_
  refine TL_y rfl rfl (Y_move rfl) ?_
  refine TL_y rfl rfl (Y_len rfl) ?_
  refine TL_y rfl rfl (Y_lt rfl rfl) ?_
  refine TL_nil ?_
  refine T_if rfl (fun h8 => ?_) (fun h8 => ?_)
  · refine T_skip ?_
    refine thenS_normal ?_
    refine T_seq ?_
    refine T_block ?_
    refine T_seq ?_
    obtain ⟨x, hx⟩ : ∃ x, l[i]? = some x := ⟨_, List.getElem?_eq_getElem (by omega)⟩
    refine T_region ?_
    refine TL_y rfl rfl (Y_move rfl) ?_
    refine TL_y rfl rfl (Y_move rfl) ?_
    refine TL_index_n rfl rfl rfl (rfl) ((sln (A := A) (c := c))) (hx) ?_
    intro bn13 on13 hA13 hk13
    have hu13 := hx
    refine TL_y rfl rfl (Y_field_addr2 rfl) ?_
    refine TL_y rfl rfl (Y_load_nx rfl hk13 hu13 (fun _ => rfl)) ?_
    refine TL_both 9 24 (x.qty < 0 ∨ 1000 < x.qty) ?_ ?_
    · refine TL_y rfl rfl (Y_lt rfl rfl) ?_
      refine TL_y rfl rfl (Y_move rfl) ?_
      refine TL_splitd 17 rfl (fun h17 => ?_) (fun h17 => ?_)
      · refine TL_gskip rfl rfl rfl rfl ?_
        refine TL_gskip rfl rfl rfl rfl ?_
        refine TL_gskip rfl rfl rfl rfl ?_
        refine TL_gskip rfl rfl rfl rfl ?_
        refine TL_gskip rfl rfl rfl rfl ?_
        refine TL_gskip rfl rfl rfl rfl ?_
        refine TL_y rfl rfl (Y_pick_t rfl rfl) ?_
        refine TL_chain_end rfl ?_ (by repeat (first | exact sub_refl | refine sub_ext rfl ?_)) GivesTo.g
        exact congrArg Value.bool (decide_eq_true (by omega)).symm
      · refine TL_grun rfl rfl ?_
        refine TL_y rfl rfl (Y_move rfl) ?_
        refine TL_grun rfl rfl ?_
        refine TL_y rfl rfl (Y_move rfl) ?_
        refine TL_grun rfl rfl ?_
        refine TL_index_n rfl rfl rfl (rfl) ((sln (A := A) (c := c))) (hx) ?_
        intro bn20 on20 hA20 hk20
        have hu20 := hx
        refine TL_grun rfl rfl ?_
        refine TL_y rfl rfl (Y_field_addr2 rfl) ?_
        refine TL_grun rfl rfl ?_
        refine TL_y rfl rfl (Y_load_nx rfl hk20 hu20 (fun _ => rfl)) ?_
        refine TL_grun rfl rfl ?_
        refine TL_y rfl rfl (Y_gt rfl rfl) ?_
        refine TL_y rfl rfl (Y_pick_f rfl rfl) ?_
        refine TL_chain_end rfl ?_ (by repeat (first | exact sub_refl | refine sub_ext rfl ?_)) GivesTo.g
        exact congrArg Value.bool (decide_eq_decide.2 (by omega))
    refine TL_nil ?_
    refine T_if rfl (fun h24 => ?_) (fun h24 => ?_)
    · refine T_region ?_
      refine TL_y rfl rfl (Y_assign rfl) ?_
      refine TL_nil ?_
      refine T_ret ?_
      refine thenS_ret ?_
      refine inB_ret ?_
      refine thenS_ret ?_
      refine thenS_ret ?_
      refine inB_ret ?_
      refine thenS_ret ?_
      exact RetG_1 (.inl rfl) rfl (ResV.tmp rfl) GivesTo.g (⟨⟨false, rfl, by simp; intro h; have := h.qty x (List.mem_of_getElem? hx); omega⟩, rfl⟩)
    · refine T_skip ?_
      refine thenS_normal ?_
      refine T_region ?_
      refine TL_y rfl rfl (Y_assign rfl) ?_
      refine TL_nil ?_
      refine T_block ?_
      refine T_loopK (σ := Nat) [0, 3] (fun k => k ≤ i ∧ ∀ a ∈ (l.take i).take k, a.dot = x.dot → a = x) (fun k kv => (4, .int .i64 (k : Int)) :: kv) (fun k => sl eventR A c l :: L) (fun k => i - k) (0) rfl (⟨Nat.zero_le _, by simp⟩) (GivesTo.g) (sub_cons rfl (sub_cons rfl (sub_cons rfl (sub_nil)))) ?_
      intro k hk2
      refine T_seq ?_
      refine T_region ?_
      refine TL_y rfl rfl (Y_move rfl) ?_
      refine TL_y rfl rfl (Y_move rfl) ?_
      refine TL_y rfl rfl (Y_lt rfl rfl) ?_
      refine TL_nil ?_
      refine T_if rfl (fun h27 => ?_) (fun h27 => ?_)
      · refine T_skip ?_
        refine thenS_normal ?_
        refine T_seq ?_
        refine T_block ?_
        obtain ⟨y, hy⟩ : ∃ y, l[k]? = some y := ⟨_, List.getElem?_eq_getElem (by omega)⟩
        have hyi : (l.take i)[k]? = some y := (by rw [List.getElem?_take_of_lt (by omega)]; exact hy)
        refine T_at (slk (A := A) (c := c)) hy fun b1 o1 l1 ha1 => ?_
        refine T_ex fun p1 ok1 => ?_
        simp only [List.cons_append, List.nil_append]
        refine T_at (slk (A := A) (c := c)) hx fun b2 o2 l2 ha2 => ?_
        refine T_ex fun p2 ok2 => ?_
        simp only [List.cons_append, List.nil_append]
        refine T_region_draw _ [0, 0, 3, 7, 15, 0, 0, 96, 224, 480, 1023, 2047, 4095, 4095, 16383, 32767, 4095, 4095, 200703, 462847, 1048575, 2097151, 4194303] [] [(0, true), (1, true), (2, true), (3, true), (4, true), (5, true), (6, true), (7, true), (8, true), (9, true), (10, true), (11, true), (12, true), (13, true), (14, true), (15, true), (16, true), (17, true), (18, true), (19, true), (20, false), (21, true), (22, true)] (by kernel_rfl) (by decide +kernel) (Gives.refl _) ?_
        refine TF_y rfl rfl (Y_move rfl) ?_
        refine TF_y rfl rfl (Y_move rfl) ?_
        refine TF_y rfl rfl (Y_index_at rfl rfl (by omega) ha1) ?_
        refine TF_y rfl rfl (Y_field_addr2 rfl) ?_
        refine TF_y rfl rfl (Y_load_row_agg (vs := [.int .i64 y.dot.1, .int .i64 y.dot.2]) rfl rfl) ?_
        refine TF_y rfl rfl (Y_move rfl) ?_
        refine TF_y rfl rfl (Y_move rfl) ?_
        refine TF_y rfl rfl (Y_index_at rfl rfl (by omega) ha2) ?_
        refine TF_y rfl rfl (Y_field_addr2 rfl) ?_
        refine TF_y rfl rfl (Y_load_row_agg (vs := [.int .i64 x.dot.1, .int .i64 x.dot.2]) rfl rfl) ?_
        refine TF_y rfl rfl (Y_eq_dot (a := y.dot) (b := x.dot) rfl rfl) ?_
        refine TF_y rfl rfl (Y_move rfl) ?_
        refine TF_splitd 41 rfl (fun h41 => ?_) (fun h41 => ?_)
        · refine TF_gy rfl rfl rfl rfl (Y_move rfl) ?_
          refine TF_gy rfl rfl rfl rfl (Y_move rfl) ?_
          refine TF_gy rfl rfl rfl rfl (Y_index_at rfl rfl (by omega) ha1) ?_
          refine TF_gy rfl rfl rfl rfl (Y_load_row_agg (vs := eventC y p1) rfl rfl) ?_
          refine TF_gy rfl rfl rfl rfl (Y_move rfl) ?_
          refine TF_gy rfl rfl rfl rfl (Y_move rfl) ?_
          refine TF_gy rfl rfl rfl rfl (Y_index_at rfl rfl (by omega) ha2) ?_
          refine TF_gy rfl rfl rfl rfl (Y_load_row_agg (vs := eventC x p2) rfl rfl) ?_
          refine TF_anchor rfl ?_
          refine TL_grun rfl rfl ?_
          refine TL_call rfl rfl (sameEvent_spec y x sln sln) ?_
          rintro _ _ ⟨rfl, rfl⟩
          refine TF_end GivesTo.g ?_
          refine TF_gy rfl rfl rfl rfl (Y_not_d rfl) ?_
          refine TF_y rfl rfl (Y_pick_t rfl rfl) ?_
          refine TF_nil ?_
          refine T_if rfl (fun h52 => ?_) (fun h52 => ?_)
          · refine T_region ?_
            refine TL_y rfl rfl (Y_assign rfl) ?_
            refine TL_nil ?_
            refine T_ret ?_
            refine inB_ret ?_
            refine thenS_ret ?_
            refine thenS_ret ?_
            refine inB_ret ?_
            refine inB_ret ?_
            refine thenS_ret ?_
            refine thenS_ret ?_
            refine inB_ret ?_
            refine thenS_ret ?_
            exact RetG_1 (.inl rfl) rfl (ResV.tmp rfl) GivesTo.g (⟨⟨false, rfl, by simp; intro h; exact h52 (h.one y (List.mem_of_getElem? hy) x (List.mem_of_getElem? hx) h41)⟩, rfl⟩)
          · refine T_skip ?_
            refine inB_normal ?_
            refine thenS_normal ?_
            refine T_region_last ?_
            refine TL_y rfl rfl (Y_move rfl) ?_
            refine TL_y rfl rfl (Y_add rfl rfl (by omega)) ?_
            refine TL_name 29 (v' := .int .i64 ((k + 1 : Nat) : Int)) rfl (rfl) ?_
            refine TL_y rfl rfl (Y_assign rfl) ?_
            refine TL_nil ?_
            refine thenS_normal ?_
            exact ⟨k + 1, ⟨by omega, by rw [takeAt hyi]; intro a ha h; rcases List.mem_append.1 ha with ha | ha; exact hk2.2 a ha h; (rw [List.mem_singleton.1 ha]; exact Classical.not_not.1 h52)⟩, by omega, holds_to (sub_cons rfl (sub_cons rfl (sub_cons rfl (sub_nil)))) GivesTo.g⟩
        · refine TF_gskip rfl rfl rfl rfl rfl ?_
          refine TF_gskip rfl rfl rfl rfl rfl ?_
          refine TF_gskip rfl rfl rfl rfl rfl ?_
          refine TF_gskip rfl rfl rfl rfl rfl ?_
          refine TF_gskip rfl rfl rfl rfl rfl ?_
          refine TF_gskip rfl rfl rfl rfl rfl ?_
          refine TF_gskip rfl rfl rfl rfl rfl ?_
          refine TF_gskip rfl rfl rfl rfl rfl ?_
          refine TF_anchor rfl ?_
          refine TL_gskip rfl rfl rfl rfl ?_
          refine TF_end GivesTo.g ?_
          refine TF_gskip rfl rfl rfl rfl rfl ?_
          refine TF_y rfl rfl (Y_pick_f rfl rfl) ?_
          refine TF_nil ?_
          refine T_cond_false rfl ?_
          refine T_skip ?_
          refine inB_normal ?_
          refine thenS_normal ?_
          refine T_region_last ?_
          refine TL_y rfl rfl (Y_move rfl) ?_
          refine TL_y rfl rfl (Y_add rfl rfl (by omega)) ?_
          refine TL_name 29 (v' := .int .i64 ((k + 1 : Nat) : Int)) rfl (rfl) ?_
          refine TL_y rfl rfl (Y_assign rfl) ?_
          refine TL_nil ?_
          refine thenS_normal ?_
          exact ⟨k + 1, ⟨by omega, by rw [takeAt hyi]; intro a ha h; rcases List.mem_append.1 ha with ha | ha; exact hk2.2 a ha h; (rw [List.mem_singleton.1 ha] at h ⊢; exact absurd h h41)⟩, by omega, holds_to (sub_cons rfl (sub_cons rfl (sub_cons rfl (sub_nil)))) GivesTo.g⟩
      · refine T_exit ?_
        refine thenS_exit ?_
        refine thenS_exit ?_
        refine inB_hit ?_
        refine inB_normal ?_
        refine thenS_normal ?_
        refine T_region_last ?_
        refine TL_y rfl rfl (Y_move rfl) ?_
        refine TL_y rfl rfl (Y_add rfl rfl (by omega)) ?_
        refine TL_name 10 (v' := .int .i64 ((i + 1 : Nat) : Int)) rfl (rfl) ?_
        refine TL_y rfl rfl (Y_assign rfl) ?_
        refine TL_nil ?_
        refine thenS_normal ?_
        exact ⟨i + 1, ⟨by omega, right_snoc hi.2 hx (by omega) (by have := hk2.2; rwa [List.take_of_length_le (by rw [List.length_take]; omega)] at this)⟩, by omega, holds_to (sub_cons rfl (sub_cons rfl (sub_nil))) GivesTo.g⟩
  · refine T_exit ?_
    refine thenS_exit ?_
    refine thenS_exit ?_
    refine inB_hit ?_
    refine thenS_normal ?_
    refine T_region ?_
    refine TL_y rfl rfl (Y_assign rfl) ?_
    refine TL_nil ?_
    refine T_ret ?_
    exact RetG_1 (.inl rfl) rfl (ResV.tmp rfl) GivesTo.g (⟨⟨true, rfl, by simp; have := hi.2; rwa [List.take_of_length_le (by omega)] at this⟩, rfl⟩)
theorem of11_spec {L : List HP} {A : Option Addr} {c : Nat} {xs : List LineD} (sku : ByteArray) (hk : SlN L lineR A c xs) : Fn Try.prog 15 #[.slice A xs.length c, .string sku] L (fun v L' => v = .int .i64 (ofX xs sku) ∧ L' = L) := by
  refine Fn_enter Try.func15 rfl rfl rfl rfl ?_
  refine hk.lens fun hl => ?_
  simp only [maxEl] at hl
  refine T_region ?_
  refine TL_y rfl rfl (Y_assign rfl) ?_
  refine TL_nil ?_
  refine T_seq ?_
  refine T_region ?_
  refine TL_y rfl rfl (Y_assign rfl) ?_
  refine TL_nil ?_
  refine T_block ?_
  refine T_loopK (σ := Nat) [0, 1] (fun i => i ≤ xs.length ∧ ∀ p ∈ xs.take i, p.1 ≠ sku) (fun i kv => (5, .int .i64 (i : Int)) :: kv) (fun i => L) (fun i => xs.length - i) (0) rfl (⟨Nat.zero_le _, by simp⟩) (GivesTo.g) (sub_cons rfl (sub_cons rfl (sub_cons rfl (sub_nil)))) ?_
  intro i hi
  refine T_seq ?_
  refine T_region ?_
  refine TL_y rfl rfl (Y_move rfl) ?_
  refine TL_y rfl rfl (Y_move rfl) ?_
  refine TL_y rfl rfl (Y_len rfl) ?_
  refine TL_y rfl rfl (Y_lt rfl rfl) ?_
  refine TL_nil ?_
  refine T_if rfl (fun h9 => ?_) (fun h9 => ?_)
  · refine T_skip ?_
    refine thenS_normal ?_
    refine T_seq ?_
    refine T_block ?_
    obtain ⟨p, hp⟩ : ∃ p, xs[i]? = some p := ⟨_, List.getElem?_eq_getElem (by omega)⟩
    refine T_region ?_
    refine TL_y rfl rfl (Y_move rfl) ?_
    refine TL_y rfl rfl (Y_move rfl) ?_
    refine TL_index_n rfl rfl rfl (rfl) (hk) (hp) ?_
    intro bn14 on14 hA14 hk14
    have hu14 := hp
    refine TL_y rfl rfl (Y_field_addr2 rfl) ?_
    refine TL_y rfl rfl (Y_load_n rfl hk14 hu14 rfl) ?_
    refine TL_y rfl rfl (Y_move rfl) ?_
    refine TL_y rfl rfl (Y_str_eq rfl rfl) ?_
    refine TL_nil ?_
    refine T_if rfl (fun h18 => ?_) (fun h18 => ?_)
    · refine T_region ?_
      refine TL_y rfl rfl (Y_move rfl) ?_
      refine TL_y rfl rfl (Y_move rfl) ?_
      refine TL_index_n rfl rfl rfl (rfl) (hk) (hp) ?_
      intro bn21 on21 hA21 hk21
      have hu21 := hp
      refine TL_y rfl rfl (Y_field_addr2 rfl) ?_
      refine TL_y rfl rfl (Y_load_n rfl hk21 hu21 rfl) ?_
      refine TL_y rfl rfl (Y_assign rfl) ?_
      refine TL_nil ?_
      refine T_ret ?_
      refine inB_ret ?_
      refine thenS_ret ?_
      refine thenS_ret ?_
      refine inB_ret ?_
      refine thenS_ret ?_
      exact RetG_1 (.inl rfl) rfl (ResV.tmp rfl) GivesTo.g (⟨congrArg (Value.int .i64) (ofX_at hp h18 hi.2).symm, rfl⟩)
    · refine T_skip ?_
      refine inB_normal ?_
      refine thenS_normal ?_
      refine T_region_last ?_
      refine TL_y rfl rfl (Y_move rfl) ?_
      refine TL_y rfl rfl (Y_add rfl rfl (by omega)) ?_
      refine TL_name 11 (v' := .int .i64 ((i + 1 : Nat) : Int)) rfl (rfl) ?_
      refine TL_y rfl rfl (Y_assign rfl) ?_
      refine TL_nil ?_
      refine thenS_normal ?_
      exact ⟨i + 1, ⟨by omega, by rw [takeAt hp]; intro q hq; rcases List.mem_append.1 hq with h | h; exact hi.2 q h; (rw [List.mem_singleton.1 h]; exact h18)⟩, by omega, holds_to (sub_cons rfl (sub_cons rfl (sub_cons rfl (sub_nil)))) GivesTo.g⟩
  · refine T_exit ?_
    refine thenS_exit ?_
    refine thenS_exit ?_
    refine inB_hit ?_
    refine thenS_normal ?_
    refine T_region ?_
    refine TL_y rfl rfl (Y_assign rfl) ?_
    refine TL_nil ?_
    refine T_ret ?_
    exact RetG_1 (.inl rfl) rfl (ResV.tmp rfl) GivesTo.g (⟨congrArg (Value.int .i64) (ofX_none (by have := hi.2; rwa [List.take_of_length_le (by omega)] at this)).symm, rfl⟩)
def totX (xs : List LineD) : Int := (xs.map fun p => p.2).sum
theorem totX_snoc {xs : List LineD} {i : Nat} {p : LineD} (h : xs[i]? = some p) : totX (xs.take (i + 1)) = totX (xs.take i) + p.2 := by
  unfold totX
  rw [takeAt h, List.map_append, List.sum_append]
  simp
theorem totX_take {xs : List LineD} (hp : ∀ p ∈ xs, 0 ≤ p.2) (i : Nat) : 0 ≤ totX (xs.take i) ∧ totX (xs.take i) ≤ totX xs := by
  have h0 : ∀ l : List LineD, (∀ p ∈ l, 0 ≤ p.2) → 0 ≤ totX l := by
    intro l
    induction l with
    | nil => intro _; exact Int.le_refl _
    | cons x r ih =>
      intro h
      have h1 := ih fun p hp => h p (List.mem_cons_of_mem _ hp)
      have h2 := h x List.mem_cons_self
      unfold totX at h1 ⊢
      rw [List.map_cons, List.sum_cons]; omega
  refine ⟨h0 _ fun p h => hp p (List.mem_of_mem_take h), ?_⟩
  have h1 : totX xs = totX (xs.take i) + totX (xs.drop i) := by
    conv => lhs; rw [← List.take_append_drop i xs]
    unfold totX
    rw [List.map_append, List.sum_append]
  have h2 := h0 (xs.drop i) fun p h => hp p (List.mem_of_mem_drop h)
  omega
theorem total_spec {L : List HP} {A : Option Addr} {c : Nat} {xs : List LineD} (hp : ∀ p ∈ xs, 0 ≤ p.2) (hb : totX xs ≤ 4611686018427387904) (hk : SlN L lineR A c xs) : Fn Try.prog 19 #[.slice A xs.length c] L (fun v L' => v = .int .i64 (totX xs) ∧ L' = L) := by
  refine Fn_enter Try.func19 rfl rfl rfl rfl ?_
  refine hk.lens fun hl => ?_
  simp only [maxEl] at hl
  refine T_region ?_
  refine TL_y rfl rfl (Y_assign rfl) ?_
  refine TL_nil ?_
  refine T_region ?_
  refine TL_y rfl rfl (Y_assign rfl) ?_
  refine TL_nil ?_
  refine T_seq ?_
  refine T_region ?_
  refine TL_y rfl rfl (Y_move rfl) ?_
  refine TL_y rfl rfl (Y_len rfl) ?_
  refine TL_y rfl rfl (Y_move rfl) ?_
  refine TL_nil ?_
  refine T_block ?_
  refine T_loopK (σ := Nat) [6, 7] (fun i => i ≤ xs.length) (fun i kv => (8, .int .i64 (i : Int)) :: (3, .int .i64 (totX (xs.take i))) :: kv) (fun i => L) (fun i => xs.length - i) (0) rfl (Nat.zero_le _) (GivesTo.g) (sub_cons rfl (sub_cons rfl (sub_cons rfl (sub_cons rfl (sub_nil))))) ?_
  intro i hi
  refine T_region ?_
  refine TL_y rfl rfl (Y_lt rfl rfl) ?_
  refine TL_nil ?_
  refine T_seq ?_
  refine T_if rfl (fun h9 => ?_) (fun h9 => ?_)
  · refine T_skip ?_
    refine thenS_normal ?_
    refine T_seq ?_
    refine T_block ?_
    obtain ⟨p, hpx⟩ : ∃ p, xs[i]? = some p := ⟨_, List.getElem?_eq_getElem (by omega)⟩
    have hts := totX_snoc hpx
    have ht1 := totX_take hp i
    have ht2 := totX_take hp (i + 1)
    have hpp := hp p (List.mem_of_getElem? hpx)
    refine T_region ?_
    refine TL_index_n rfl rfl rfl (rfl) (hk) (hpx) ?_
    intro bn10 on10 hA10 hk10
    have hu10 := hpx
    refine TL_y rfl rfl (Y_load_naf rfl hk10 hu10 rfl) ?_
    refine TL_alloc rfl rfl ?_
    intro b5
    refine TL_store rfl rfl rfl rfl rfl rfl ?_
    refine TL_nil ?_
    refine T_region_last ?_
    refine TL_y rfl rfl (Y_move rfl) ?_
    refine TL_y rfl rfl (Y_field_addr rfl) ?_
    refine TL_y rfl rfl (Y_load rfl rfl) ?_
    refine TL_y rfl rfl (Y_add rfl rfl (by omega)) ?_
    refine TL_name 15 (v' := .int .i64 (totX (xs.take (i + 1)))) rfl (by rw [hts]) ?_
    refine TL_y rfl rfl (Y_assign rfl) ?_
    refine TL_nil ?_
    refine inB_normal ?_
    refine thenS_normal ?_
    refine T_region_last ?_
    refine TL_y rfl rfl (Y_add rfl rfl (by omega)) ?_
    refine TL_name 16 (v' := .int .i64 ((i + 1 : Nat) : Int)) rfl (rfl) ?_
    refine TL_y rfl rfl (Y_move rfl) ?_
    refine TL_nil ?_
    refine thenS_normal ?_
    exact ⟨i + 1, (by omega), by omega, holds_to (sub_cons rfl (sub_cons rfl (sub_cons rfl (sub_cons rfl (sub_nil))))) GivesTo.g⟩
  · refine T_exit ?_
    refine thenS_exit ?_
    refine thenS_exit ?_
    refine inB_hit ?_
    refine thenS_normal ?_
    refine T_region ?_
    refine TL_y rfl rfl (Y_move rfl) ?_
    refine TL_y rfl rfl (Y_assign rfl) ?_
    refine TL_nil ?_
    refine T_ret ?_
    rw [List.take_of_length_le (show xs.length ≤ i by omega)]
    exact RetG_1 (.inl rfl) rfl (ResV.tmp rfl) GivesTo.g (⟨rfl, rfl⟩)
abbrev lineV (t : LineD) : Value := .agg (List.toArray (lineC t))
theorem line_guard : Try.prog.eqGuardType Try.prog.depth 65 = false := by kernel_rfl
theorem line_held : Try.prog.stoodInHeld 65 = false := by kernel_rfl
theorem line_eq0 (dd : Nat) (w : World) (a b : LineD) : (Op.equalIn (dd + 2) 65 (lineV a) (lineV b)).run Try.prog w = .ok (decide (a = b)) w := by
  have hn : ∀ x y, (Op.equalIn (dd + 1) 3 (.int .i64 x) (.int .i64 y)).run Try.prog w = .ok (decide (x = y)) w := fun x y => EqIs.int (k := .i64) dd w
  have hs : ∀ x y, (Op.equalIn (dd + 1) 9 (.string x) (.string y)).run Try.prog w = .ok (decide (x = y)) w := fun x y => EqIs.str dd w
  generalize hdd : dd + 1 = d1 at hn hs
  have : dd + 2 = d1 + 1 := by omega
  rw [this]
  simp [Op.equalIn, Try.runUnderlying65, line_held, part, Try.isAgg3, Try.isAgg9, hn, hs]
  by_cases h1 : a.1 = b.1 <;> by_cases h2 : a.2 = b.2 <;> simp [h1, h2, Prod.ext_iff]
section
variable {E : Env} {L : List HP} {ty : TypeId}
theorem line_eq1 (w : World) (a b : LineD) : (Op.equal 65 (lineV a) (lineV b)).run Try.prog w = .ok (decide (a = b)) w := line_eq0 9998 w a b
theorem Y_eq_line {x y : Operand} {t' : TypeId} {a b : LineD} (hx : ev E x = some (lineV a)) (hy : ev E y = some (lineV b)) : Yl Try.prog E L (.binOp .eql 65 x y t') ty (.bool (decide (a = b))) := fun n D W ac w dst pos af g hv hs => by
  have h3 : ∀ xs ys : Array Value, Go.binOp .eql 65 (.agg xs) (.agg ys) = (do Pure.pure (Value.bool (← Op.equal 65 (.agg xs) (.agg ys))) : Sem Value) := fun xs ys => by simp only [Go.binOp]
  simp only [execOp, hv.ev hx, hv.ev hy, eqGuard, h3]
  simp [line_guard, line_eq1]
theorem Y_ne_line {x y : Operand} {t' : TypeId} {a b : LineD} (hx : ev E x = some (lineV a)) (hy : ev E y = some (lineV b)) : Yl Try.prog E L (.binOp .neq 65 x y t') ty (.bool (!decide (a = b))) := fun n D W ac w dst pos af g hv hs => by
  have h3 : ∀ xs ys : Array Value, Go.binOp .neq 65 (.agg xs) (.agg ys) = (do Pure.pure (Value.bool (!(← Op.equal 65 (.agg xs) (.agg ys)))) : Sem Value) := fun xs ys => by simp only [Go.binOp]
  simp only [execOp, hv.ev hx, hv.ev hy, eqGuard, h3]
  simp [line_guard, line_eq1]
end
theorem equalL_spec {L : List HP} {A B : Option Addr} {c d : Nat} {xs ys : List LineD} (hk : SlN L lineR A c xs) (hk2 : SlN L lineR B d ys) : Fn Try.prog 62 #[.slice A xs.length c, .slice B ys.length d] L (fun v L' => v = .bool (decide (xs = ys)) ∧ L' = L) := by
  refine Fn_enter Try.func62 rfl rfl rfl rfl ?_
  refine hk.lens fun hl => ?_
  simp only [maxEl] at hl
  refine T_region ?_
  refine TL_y rfl rfl (Y_assign rfl) ?_
  refine TL_nil ?_
  refine T_seq ?_
  refine T_region ?_
  refine TL_y rfl rfl (Y_move rfl) ?_
  refine TL_y rfl rfl (Y_len rfl) ?_
  refine TL_y rfl rfl (Y_move rfl) ?_
  refine TL_y rfl rfl (Y_len rfl) ?_
  refine TL_y rfl rfl (Y_ne rfl rfl) ?_
  refine TL_nil ?_
  refine T_if rfl (fun h10 => ?_) (fun h10 => ?_)
  · refine T_region ?_
    refine TL_y rfl rfl (Y_assign rfl) ?_
    refine TL_nil ?_
    refine T_ret ?_
    refine thenS_ret ?_
    exact RetG_1 (.inl rfl) rfl (ResV.tmp rfl) GivesTo.g (⟨by rw [decide_eq_false]; rintro rfl; exact h10 rfl, rfl⟩)
  · refine T_skip ?_
    refine thenS_normal ?_
    refine T_seq ?_
    refine T_region ?_
    refine TL_y rfl rfl (Y_move rfl) ?_
    refine TL_y rfl rfl (Y_len rfl) ?_
    refine TL_y rfl rfl (Y_move rfl) ?_
    refine TL_nil ?_
    refine T_block ?_
    refine T_loopK (σ := Nat) [0, 1, 12] (fun i => i ≤ xs.length ∧ xs.take i = ys.take i) (fun i kv => (13, .int .i64 (i : Int)) :: kv) (fun i => L) (fun i => xs.length - i) (0) rfl (⟨Nat.zero_le _, rfl⟩) (GivesTo.g) (sub_cons rfl (sub_cons rfl (sub_cons rfl (sub_cons rfl (sub_nil))))) ?_
    intro i hi
    refine T_region ?_
    refine TL_y rfl rfl (Y_lt rfl rfl) ?_
    refine TL_nil ?_
    refine T_seq ?_
    refine T_if rfl (fun h14 => ?_) (fun h14 => ?_)
    · refine T_skip ?_
      refine thenS_normal ?_
      refine T_seq ?_
      refine T_block ?_
      refine T_region ?_
      refine TL_y rfl rfl (Y_move rfl) ?_
      refine TL_y rfl rfl (Y_assign rfl) ?_
      refine TL_nil ?_
      have hx := List.getElem?_eq_getElem (show i < xs.length by omega)
      have hy := List.getElem?_eq_getElem (show i < ys.length by omega)
      refine T_addr_n hk hx fun b1 o1 e1 => ?_
      refine T_addr_n hk2 hy fun b2 o2 e2 => ?_
      subst e1
      subst e2
      refine T_region_draw _ [0, 0, 3, 7, 0, 0, 48, 112, 255] [] [(0, true), (1, true), (2, true), (3, true), (4, true), (5, true), (6, true), (7, true), (8, true)] (by kernel_rfl) (by decide +kernel) (Gives.refl _) ?_
      refine TF_y rfl rfl (Y_move rfl) ?_
      refine TF_y rfl rfl (Y_move rfl) ?_
      refine TF_y rfl rfl (Y_index_n (R := lineR) (xs := xs) rfl rfl rfl hx) ?_
      refine TF_y rfl rfl (Y_load_naf (q := 0) (vs := lineC xs[i]) rfl hk hx rfl) ?_
      refine TF_y rfl rfl (Y_move rfl) ?_
      refine TF_y rfl rfl (Y_move rfl) ?_
      refine TF_y rfl rfl (Y_index_n (R := lineR) (xs := ys) rfl rfl rfl hy) ?_
      refine TF_y rfl rfl (Y_load_naf (q := 0) (vs := lineC ys[i]) rfl hk2 hy rfl) ?_
      refine TF_y rfl rfl (Y_ne_line rfl rfl) ?_
      refine TF_name 24 (v' := .bool (decide (xs[i] ≠ ys[i]))) rfl (by by_cases h : xs[i] = ys[i] <;> simp [h]) ?_
      refine TF_nil ?_
      refine T_if rfl (fun h24 => ?_) (fun h24 => ?_)
      · refine T_region ?_
        refine TL_y rfl rfl (Y_assign rfl) ?_
        refine TL_nil ?_
        refine T_ret ?_
        refine inB_ret ?_
        refine thenS_ret ?_
        refine thenS_ret ?_
        refine inB_ret ?_
        refine thenS_ret ?_
        exact RetG_1 (.inl rfl) rfl (ResV.tmp rfl) GivesTo.g (⟨by rw [decide_eq_false]; rintro rfl; exact h24 rfl, rfl⟩)
      · refine T_skip ?_
        refine inB_normal ?_
        refine thenS_normal ?_
        refine T_region_last ?_
        refine TL_y rfl rfl (Y_add rfl rfl (by omega)) ?_
        refine TL_name 25 (v' := .int .i64 ((i + 1 : Nat) : Int)) rfl (by simp) ?_
        refine TL_y rfl rfl (Y_move rfl) ?_
        refine TL_nil ?_
        refine thenS_normal ?_
        exact ⟨i + 1, ⟨by omega, takeStep hi.2 hx hy (Classical.not_not.1 h24)⟩, by omega, holds_to (sub_cons rfl (sub_cons rfl (sub_cons rfl (sub_cons rfl (sub_nil))))) GivesTo.g⟩
    · refine T_exit ?_
      refine thenS_exit ?_
      refine thenS_exit ?_
      refine inB_hit ?_
      refine thenS_normal ?_
      refine T_region ?_
      refine TL_y rfl rfl (Y_assign rfl) ?_
      refine TL_nil ?_
      refine T_ret ?_
      exact RetG_1 (.inl rfl) rfl (ResV.tmp rfl) GivesTo.g (⟨by rw [decide_eq_true (takeAll hi.2 (by omega) (by omega))], rfl⟩)
theorem sameL_spec {L : List HP} {A B : Option Addr} {c d : Nat} {xs ys : List LineD} (hk : SlN L lineR A c xs) (hk2 : SlN L lineR B d ys) : Fn Try.prog 35 #[.slice A xs.length c, .slice B ys.length d] L (fun v L' => v = .bool (decide (xs = ys)) ∧ L' = L) := by
  refine Fn_enter Try.func35 rfl rfl rfl rfl ?_
  refine T_region ?_
  refine TL_y rfl rfl (Y_assign rfl) ?_
  refine TL_nil ?_
  refine T_region ?_
  refine TL_y rfl rfl (Y_move rfl) ?_
  refine TL_y rfl rfl (Y_move rfl) ?_
  refine TL_call rfl rfl (equalL_spec hk hk2) ?_
  rintro _ _ ⟨rfl, rfl⟩
  refine TL_y rfl rfl (Y_assign rfl) ?_
  refine TL_nil ?_
  refine T_ret ?_
  exact RetG_1 (.inl rfl) rfl (ResV.tmp rfl) GivesTo.g (⟨rfl, rfl⟩)
end Go.SL
set_option linter.unusedVariables false
set_option linter.unusedSimpArgs false
namespace Go.SL
open Go Go.Proofs
theorem cells_cons {α : Type} {R : Rep α} {L : List HP} {x : α} {xs : List α} {l cs : List Value} (h : Knows L (fun M => R.rep M x l)) (k : Knows L (fun M => CellsOf M R xs cs)) : Knows L (fun M => CellsOf M R (x :: xs) (l ++ cs)) := (h.and k).mono fun M h => ⟨l, cs, h.1, h.2, rfl⟩
abbrev lc1 : EventD := ⟨(0, 1), [], ⟨#[99]⟩, 0, ⟨#[116, 101, 97]⟩, 2, false⟩
abbrev lc2 : EventD := ⟨(1, 1), [], ⟨#[99]⟩, 0, ⟨#[116, 101, 97]⟩, 1, false⟩
abbrev lc3 : EventD := ⟨(0, 2), [1], ⟨#[99]⟩, 0, ⟨#[116, 101, 97]⟩, 0, true⟩
theorem lc_stand : standC [lc1, lc2, lc3] = [lc2, lc3] := by decide +kernel
theorem lc_count : countC [lc1, lc2, lc3] = [lc2, lc3] := by decide +kernel
theorem lc_line (k : ByteArray) : lineF [lc1, lc2, lc3] ⟨#[99]⟩ k = if (⟨#[116, 101, 97]⟩ : ByteArray) = k then 1 else 0 := by
  rw [lineF_eq, lc_count]
  by_cases h : (⟨#[116, 101, 97]⟩ : ByteArray) = k <;> simp [ofC, h, sumC]
theorem lc_lines : IsLines [lc1, lc2, lc3] ⟨#[99]⟩ [(⟨#[116, 101, 97]⟩, 1)] := ⟨List.pairwise_singleton _ _, fun k q => by
  rw [lc_line, List.mem_singleton, Prod.mk.injEq]
  constructor
  · rintro ⟨rfl, rfl⟩; simp
  · rintro ⟨h1, h2⟩
    by_cases h : (⟨#[116, 101, 97]⟩ : ByteArray) = k
    · rw [if_pos h] at h1; exact ⟨h.symm, h1⟩
    · rw [if_neg h] at h1; omega, by rw [lc_count]; decide +kernel⟩
theorem lc_xs {xs : List LineD} (h : IsLines [lc1, lc2, lc3] ⟨#[99]⟩ xs) : xs = [(⟨#[116, 101, 97]⟩, 1)] := h.ext lc_lines fun _ => rfl
theorem evOk_mk {e : EventD} (h1 : 0 ≤ e.dot.1 ∧ e.dot.1 ≤ 1000 ∧ 0 ≤ e.dot.2 ∧ e.dot.2 ≤ 1000) (h2 : e.deps.length ≤ 1000) (h3 : e.cart.size ≤ maxEl) (h4 : e.epoch = 0) (h5 : e.sku.size ≤ maxEl) (h6 : 0 ≤ e.qty ∧ e.qty ≤ 1000) : eventOk e := ⟨i64In_mk (by omega), i64In_mk (by omega), by omega, h3, i64In_mk (by omega), h5, i64In_mk (by omega)⟩
theorem lc_size3 : (⟨#[116, 101, 97]⟩ : ByteArray).size ≤ maxEl := by show (3 : Nat) ≤ maxEl; decide
theorem lc_size1 : (⟨#[99]⟩ : ByteArray).size ≤ maxEl := by show (1 : Nat) ≤ maxEl; decide
theorem lc1_ok : eventOk lc1 := evOk_mk (by decide) (by decide) lc_size1 rfl lc_size3 (by decide)
theorem lc2_ok : eventOk lc2 := evOk_mk (by decide) (by decide) lc_size1 rfl lc_size3 (by decide)
theorem lc3_ok : eventOk lc3 := evOk_mk (by decide) (by decide) lc_size1 rfl lc_size3 (by decide)
theorem lives11_spec (L : List HP) : Fn Try.prog 12 #[] L (fun v L' => v = .bool true ∧ L' = L) := by
  refine Fn_enter Try.func12 rfl rfl rfl rfl ?_
  refine T_gives (slnil (R := intR .i64) (A := none) (c := 0)).lay ?_
  refine T_region ?_
  refine TL_y rfl rfl (Y_assign rfl) ?_
  refine TL_nil ?_
  refine T_region ?_
  refine TL_y rfl rfl (Y_build rfl rfl) ?_
  refine TL_y rfl rfl (Y_build rfl rfl) ?_
  refine TL_y rfl rfl (Y_build rfl rfl) ?_
  refine TL_y rfl rfl (Y_build rfl rfl) ?_
  refine TL_y rfl rfl (Y_build rfl rfl) ?_
  refine TL_build_slice rfl rfl rfl rfl rfl rfl ?_
  intro b8
  refine TL_osl (k := 1) (intR .i64) [1] (Knows.const (cells_ints (xs := [1]) (k := .i64) (fun x hx => by rw [List.mem_singleton.1 hx]; decide))) rfl (by decide) ?_
  refine TL_freeze_osl ?_
  refine TL_y rfl rfl (Y_build rfl rfl) ?_
  refine TL_build_slice rfl rfl rfl rfl rfl rfl ?_
  intro b10
  refine TL_osl (k := 3) eventR [lc1, lc2, lc3] (cells_cons (ex_rep (u := lc1) ((none : Option Addr), (0 : Nat)) (sep_sl slk) lc1_ok) (cells_cons (ex_rep (u := lc2) ((none : Option Addr), (0 : Nat)) (sep_sl slk) lc2_ok) (cells_one' (ex_rep (u := lc3) ((some ⟨b8, 0, none⟩ : Option Addr), (1 : Nat)) (sep_sl slk) lc3_ok)))) rfl (by decide) ?_
  refine TL_freeze_osl ?_
  refine TL_name 10 (v' := .slice (some ⟨b10, 0, none⟩) [lc1, lc2, lc3].length 3) rfl rfl ?_
  refine TL_y rfl rfl (Y_assign rfl) ?_
  refine TL_nil ?_
  refine T_region ?_
  refine TL_y rfl rfl (Y_move rfl) ?_
  refine TL_call rfl rfl (lines_spec (l := [lc1, lc2, lc3]) ⟨#[99]⟩ slk (by decide) (by decide)) ?_
  rintro _ _ ⟨A12, c12, xs12, rfl, rfl, hx12, hl12⟩
  obtain rfl := lc_xs hx12
  refine TL_freeze_osl ?_
  refine TL_y rfl rfl (Y_assign rfl) ?_
  refine TL_nil ?_
  refine T_region ?_
  refine TL_y rfl rfl (Y_move rfl) ?_
  refine TL_y rfl rfl (Y_len rfl) ?_
  refine TL_y rfl rfl (Y_eq rfl rfl) ?_
  refine TL_name 15 (v' := .bool true) rfl (rfl) ?_
  refine TL_y rfl rfl (Y_move rfl) ?_
  refine TL_grun rfl rfl ?_
  refine TL_y rfl rfl (Y_move rfl) ?_
  refine TL_grun rfl rfl ?_
  refine TL_index_n rfl rfl rfl (rfl) ((sln (A := A12) (c := c12) (R := lineR) (xs := [(⟨#[116, 101, 97]⟩, 1)]))) (show ([(⟨#[116, 101, 97]⟩, 1)] : List LineD)[0]? = some (⟨#[116, 101, 97]⟩, 1) from rfl) ?_
  intro bn18 on18 hA18 hk18
  have hu18 := show ([(⟨#[116, 101, 97]⟩, 1)] : List LineD)[0]? = some (⟨#[116, 101, 97]⟩, 1) from rfl
  refine TL_grun rfl rfl ?_
  refine TL_y rfl rfl (Y_load_naf (q := 0) (vs := lineC (⟨#[116, 101, 97]⟩, 1)) rfl hk18 hu18 rfl) ?_
  refine TL_grun rfl rfl ?_
  refine TL_y rfl rfl (Y_build rfl rfl) ?_
  refine TL_grun rfl rfl ?_
  refine TL_y rfl rfl (Y_eq_line (a := (⟨#[116, 101, 97]⟩, 1)) (b := (⟨#[116, 101, 97]⟩, 1)) rfl rfl) ?_
  refine TL_name 21 (v' := .bool true) rfl (congrArg Value.bool (decide_eq_true rfl)) ?_
  refine TL_y rfl rfl (Y_pick_t rfl rfl) ?_
  refine TL_y rfl rfl (Y_move rfl) ?_
  refine TL_grun rfl rfl ?_
  refine TL_y rfl rfl (Y_move rfl) ?_
  refine TL_grun rfl rfl ?_
  refine TL_call rfl rfl (total_spec (xs := [(⟨#[116, 101, 97]⟩, 1)]) (by decide) (by decide) sln) ?_
  rintro _ _ ⟨rfl, rfl⟩
  refine TL_grun rfl rfl ?_
  refine TL_y rfl rfl (Y_eq rfl rfl) ?_
  refine TL_name 26 (v' := .bool true) rfl (congrArg Value.bool (decide_eq_true rfl)) ?_
  refine TL_y rfl rfl (Y_pick_t rfl rfl) ?_
  refine TL_y rfl rfl (Y_move rfl) ?_
  refine TL_grun rfl rfl ?_
  refine TL_y rfl rfl (Y_move rfl) ?_
  refine TL_grun rfl rfl ?_
  refine TL_call rfl rfl (stand_spec (l := [lc1, lc2, lc3]) slk (by decide)) ?_
  rintro _ _ ⟨A30, c30, rfl, rfl⟩
  refine TL_grun rfl rfl ?_
  refine TL_y rfl rfl (Y_len rfl) ?_
  refine TL_grun rfl rfl ?_
  refine TL_y rfl rfl (Y_eq rfl rfl) ?_
  refine TL_name 32 (v' := .bool true) rfl (by rw [lc_stand]; rfl) ?_
  refine TL_y rfl rfl (Y_pick_t rfl rfl) ?_
  refine TL_y rfl rfl (Y_move rfl) ?_
  refine TL_grun rfl rfl ?_
  refine TL_y rfl rfl (Y_move rfl) ?_
  refine TL_grun rfl rfl ?_
  refine TL_y rfl rfl (Y_move rfl) ?_
  refine TL_grun rfl rfl ?_
  refine TL_call rfl rfl (sameL_spec (xs := [(⟨#[116, 101, 97]⟩, 1)]) (ys := [(⟨#[116, 101, 97]⟩, 1)]) sln sln) ?_
  rintro _ _ ⟨rfl, rfl⟩
  refine TL_name 37 (v' := .bool true) rfl (congrArg Value.bool (decide_eq_true rfl)) ?_
  refine TL_y rfl rfl (Y_pick_t rfl rfl) ?_
  refine TL_y rfl rfl (Y_assign rfl) ?_
  refine TL_nil ?_
  refine T_ret ?_
  exact RetG_1 (.inl rfl) rfl (ResV.tmp rfl) GivesTo.g (⟨rfl, rfl⟩)
/-! ### What a removal had not seen -/
abbrev apE (name sku : ByteArray) (qty : Int) : EventD := ⟨(6, 1), [], name, 0, sku, qty, false⟩
theorem qty_snoc {l : List EventD} {x : EventD} (h : ∀ e ∈ l, 0 ≤ e.qty ∧ e.qty ≤ 1000) (hx : 0 ≤ x.qty ∧ x.qty ≤ 1000) : ∀ e ∈ l ++ [x], 0 ≤ e.qty ∧ e.qty ≤ 1000 := fun e he => by
  rcases List.mem_append.1 he with he | he
  · exact h e he
  · rw [List.mem_singleton.1 he]; exact hx
end Go.SL
set_option linter.unusedVariables false
set_option linter.unusedSimpArgs false
namespace Go.SL
open Go Go.Proofs
abbrev knX (name sku : ByteArray) (a : Int) : EventD := ⟨(0, 1), [], name, 0, sku, a, true⟩
abbrev knY (name sku : ByteArray) (b : Int) (dp : List Int) : EventD := ⟨(1, 1), dp, name, 0, sku, b, true⟩
end Go.SL
set_option linter.unusedVariables false
set_option linter.unusedSimpArgs false
namespace Go.SL
open Go Go.Proofs
def wCut (bb : Nat) (V : Option Addr) (cv : Nat) (v : List Int) : HP := unS [cells bb [.slice V v.length cv] 27, sl (intR .i64) V cv v]
def cutC (l : List EventD) (v : List Int) : List EventD := l.filter fun e => decide (hasV v e.dot)
def leftC (l : List EventD) (v : List Int) : List EventD := l.filter fun e => !decide (hasV v e.dot)
/-! ### Pieces -/
theorem IsLines.pos {l : List EventD} {cart : ByteArray} {xs : List LineD} (h : IsLines l cart xs) : ∀ p ∈ xs, 0 ≤ p.2 := fun p hp => by
  obtain ⟨k, q⟩ := p
  have := ((h.mem k q).1 hp).2
  simp only; omega
structure PcSt where
  k : Nat
  A : Option Addr
  c : Nat
end Go.SL
set_option linter.unusedVariables false
set_option linter.unusedSimpArgs false
namespace Go.SL
open Go Go.Lib
section
variable {P : Program}
theorem zeroCells_empty {sz m : Nat} {z : Array Value} (hz : z.size = sz) (h : m * sz = 0) : Builtin.zeroCells z m = #[] := Array.eq_empty_of_size_eq_zero (by rw [size_zeroCells, hz, h])
theorem run_append_room_z {t u e : TypeId} {k : IntKind} {z : Value} {size bytes g sLen sCap m : Nat} {cur : List Value} {w : World} {ty' : TypeId} [ht : TyDesc P t (.slice e)] [hu : TyDesc P u (.int k)] [he : TyElem P e z size bytes] (hzl : z.cells.size = size) (hone : ∀ u ∈ (Builtin.zeroCells z.cells m).toList, u.oneCell' = true) (hg : w.heap[g]? = some (.cells cur.toArray e (0, 0)))
    (hroom : sLen + m ≤ sCap) (hfit : (sLen + m) * size ≤ cur.length) (hm : m * bytes ≤ 140737488355328) (hm2 : m ≤ 140737488355328) :
    (Builtin.append_ #[t, u] ty' #[.slice (some ⟨g, 0, none⟩) sLen sCap, .int .i64 (m : Int)]).run P w = .ok (.slice (some ⟨g, 0, none⟩) (sLen + m) sCap) (w.setRow g (cur.take (sLen * size) ++ (Builtin.zeroCells z.cells m).toList ++ cur.drop ((sLen + m) * size)).toArray) := by
  obtain ⟨i, hi, hz, hsz, hby⟩ := run_typeInfo (P := P) (e := e) (z := z) (size := size) (bytes := bytes)
  have hcount : (Builtin.zeroCells z.cells m).toList.length = m * size := by rw [Array.length_toList, size_zeroCells, hzl]
  have hst := run_storeCells_at P g (sLen * size) e (Builtin.zeroCells z.cells m).toList 0 cur.toArray w hg (by simp [hcount, ← Nat.add_mul]; exact hfit) hone
  simp only [Nat.add_zero] at hst
  have hw : IntKind.i64.wrap (m : Int) = (m : Int) := IntWalk.i64_in _ (by omega)
  have hneg : ¬ ((m : Int) < 0) := by omega
  have h48 : ¬ (281474976710656 < (m : Int) * (bytes : Int)) := by
    have : (m : Int) * (bytes : Int) = ((m * bytes : Nat) : Int) := by simp
    rw [this]; omega
  simp [Builtin.append_, ht.run, hu.run, sizeOf, typeInfo, zeroValue, hi, hz, hsz, hby, asInt, asIntOf, hw, hneg, h48, hroom, Addr.add_plain, hst, hcount, Nat.add_mul]
  intro h0
  rw [zeroCells_empty hzl h0] at hst ⊢
  simp only [List.length_nil, Nat.add_zero, List.append_nil, List.nil_append] at hst ⊢
  rw [hst, h0]
  simp
theorem run_append_none_z {t u e : TypeId} {k : IntKind} {z : Value} {size bytes sLen sCap : Nat} {A : Option Addr} {w : World} {ty' : TypeId} [ht : TyDesc P t (.slice e)] [hu : TyDesc P u (.int k)] [he : TyElem P e z size bytes] (hzl : z.cells.size = size) (hroom : sLen ≤ sCap) :
    (Builtin.append_ #[t, u] ty' #[.slice A sLen sCap, .int .i64 ((([] : List Nat).length : Nat) : Int)]).run P w = .ok (.slice A sLen sCap) w := by
  obtain ⟨i, hi, hz, hsz, hby⟩ := run_typeInfo (P := P) (e := e) (z := z) (size := size) (bytes := bytes)
  have hw : IntKind.i64.wrap 0 = 0 := IntWalk.i64_in _ (by omega)
  cases A <;> simp [Builtin.append_, ht.run, hu.run, sizeOf, typeInfo, zeroValue, hi, hz, hsz, hby, asInt, asIntOf, hw, hroom, storeCells]
theorem run_append_grow_z {t u e : TypeId} {k : IntKind} {z : Value} {size bytes sLen sCap m : Nat} {A : Option Addr} {w : World} {olds : List Value} {ty' : TypeId} [ht : TyDesc P t (.slice e)] [hu : TyDesc P u (.int k)] [he : TyElem P e z size bytes] (hb : 0 < bytes) (hzl : z.cells.size = size)
    (hlo : olds.length = sLen * size) (holds : sLen = 0 ∨ ∃ a, A = some a ∧ ∀ j v, olds[j]? = some v → w.cell? (a.add j) = some v) (hg : sCap < sLen + m) (h63 : sLen + m ≤ 9223372036854775807) (hfit : (sLen + m) * bytes ≤ 140737488355328) :
    (Builtin.append_ #[t, u] ty' #[.slice A sLen sCap, .int .i64 (m : Int)]).run P w = .ok (.slice (some ⟨w.heap.size, 0, none⟩) (sLen + m) (grownCap w (sLen + m) sCap e))
      (w.drew.alloc (.cells (olds.toArray ++ (Builtin.zeroCells z.cells m).toList.toArray ++ Builtin.zeroCells z.cells (grownCap w (sLen + m) sCap e - (sLen + m))) e)) := by
  obtain ⟨i, hi, hz, hsz, hby⟩ := run_typeInfo (P := P) (e := e) (z := z) (size := size) (bytes := bytes)
  have hn : ¬ (sLen + m ≤ sCap) := by omega
  have h63' : ¬ (9223372036854775807 < ((sLen : Int) + (m : Int))) := by omega
  have h48 := growslice_fits hg hfit
  have h48' : ¬ (281474976710656 < Builtin.nextslicecap (sLen + m) sCap * bytes) := by omega
  have hmb : m * bytes ≤ 140737488355328 := Nat.le_trans (Nat.mul_le_mul_right _ (by omega)) hfit
  have hw : IntKind.i64.wrap (m : Int) = (m : Int) := IntWalk.i64_in _ (by omega)
  have hneg : ¬ ((m : Int) < 0) := by omega
  have h48z : ¬ (281474976710656 < (m : Int) * (bytes : Int)) := by
    have : (m : Int) * (bytes : Int) = ((m * bytes : Nat) : Int) := by simp
    rw [this]; omega
  have hfo : (Builtin.firstCells size sLen (.slice A sLen sCap)).run P w.drew = .ok olds.toArray w.drew := run_firstCells' (w := w) rfl holds hlo
  simp [Builtin.append_, ht.run, hu.run, sizeOf, typeInfo, zeroValue, hi, hz, hsz, hby, asInt, asIntOf, hw, hneg, h48z, hn, h63', h48', Question.forced, hfo, newRow, grownCap]
  intro h0
  rw [zeroCells_empty hzl h0]
  simp
end
section
variable {r : Option Nat} {n : Nat} {P : Program} {ops : Array Oper} {rest : List Oper} {K : St → Prop} {Q : Exit → St → Prop} {D : List Deferred} {E : Env} {L L' : List HP} {d : Nat} {ty : TypeId} {pos : String} {af : Array Edge}
variable {α : Type} {R : Rep α} {A : Option Addr} {c : Nat} {xs ys : List α}
/-- Zeros appended to a slice that is ours: what comes of it. -/
theorem append_own_z {t u e : TypeId} {k0 : IntKind} {z : Value} {bytes c : Nat} {W w : World} [ht : TyDesc P t (.slice e)] [hu : TyDesc P u (.int k0)] [he : TyElem P e z R.sz bytes] (hb : 0 < bytes) (hzl : z.cells.size = R.sz) (hs : Sat W w (osl R e A c xs :: L)) (hone : ∀ u ∈ (Builtin.zeroCells z.cells ys.length).toList, u.oneCell' = true)
    (hcells : ∀ M h, Sep L M h → M.le (heapOf w) → CellsOf M R ys (Builtin.zeroCells z.cells ys.length).toList) (hfit : (xs.length + ys.length) * bytes ≤ 140737488355328) (ty' : TypeId) :
    ∃ A' c' w', (Builtin.append_ #[t, u] ty' #[.slice A xs.length c, .int .i64 (ys.length : Int)]).run P w = .ok (.slice A' (xs ++ ys).length c') w' ∧ Sat W w' (osl R e A' c' (xs ++ ys) :: L) := by
  have hcount : (Builtin.zeroCells z.cells ys.length).toList.length = ys.length * R.sz := by rw [Array.length_toList, size_zeroCells, hzl]
  have hlen : (xs ++ ys).length = xs.length + ys.length := by simp
  have hmax : xs.length + ys.length ≤ 140737488355328 := Nat.le_trans (Nat.le_mul_of_pos_right _ hb) hfit
  have hmaxEl : (xs ++ ys).length ≤ maxEl := by rw [hlen]; unfold maxEl; omega
  obtain ⟨M, k, hd, hM, hk, h1, h2, hd', l1, l2, hp, hsep⟩ := hs.ex
  have hnc := hcells M h2 hsep hM
  -- growing: all cells lie in a new block
  have grow : ∀ (olds : List Value), CellsOf M R xs olds → (xs.length = 0 ∨ ∃ a, A = some a ∧ ∀ j v, olds[j]? = some v → w.cell? (a.add j) = some v) → c < xs.length + ys.length →
      ∃ A' c' w', (Builtin.append_ #[t, u] ty' #[.slice A xs.length c, .int .i64 (ys.length : Int)]).run P w = .ok (.slice A' (xs ++ ys).length c') w' ∧ Sat W w' (osl R e A' c' (xs ++ ys) :: L) := by
    intro olds ho hold hg
    have hr := run_append_grow_z (P := P) (t := t) (u := u) (e := e) (z := z) (size := R.sz) (bytes := bytes) (ty' := ty') (m := ys.length) hb hzl ho.length hold hg (by omega) hfit
    refine ⟨_, _, _, by rw [hlen]; exact hr, ?_⟩
    have hcap := grownCap_ge w (xs.length + ys.length) c e
    have hcapm : grownCap w (xs.length + ys.length) c e ≤ maxLen := grownCap_le_maxLen w _ c e (by simp only [maxLen]; omega)
    have hsat : Sat W w.drew L := (hs.gives (Gives.drop _ _)).drew
    have hsat0 : Sat W w.drew (pers (fun M => CellsOf M R (xs ++ ys) (olds ++ (Builtin.zeroCells z.cells ys.length).toList)) (fun hM h => cellsOf_mono hM h) :: L) := by
      refine ⟨⟨M, h2, Mem.disj_le hd (Mem.le_refl _) l2, hM, Mem.le_trans l2 hk, Mem.emp, h2, Mem.emp_disj _, Mem.emp_le _, Mem.le_refl _, ho.append hnc, hsep⟩, hsat.os, hsat.tape, hsat.output, hsat.size⟩
    have hall := hsat0.alloc (.cells (olds.toArray ++ (Builtin.zeroCells z.cells ys.length).toList.toArray ++ Builtin.zeroCells z.cells (grownCap w (xs.length + ys.length) c e - (xs.length + ys.length))) e)
    refine hall.gives fun N m ⟨k1, k2, kd, m1, m2, ha, k3, k4, kd', m3, m4, hcs, hs'⟩ => ?_
    refine ⟨k1, k4, Mem.disj_le kd (Mem.le_refl _) m4, m1, Mem.le_trans m4 m2, ⟨hmaxEl, .inr ⟨_, _, rfl, ha, ?_, by rw [hlen]; exact hcap, by simpa [maxLen] using hcapm, fun i x hi => ?_⟩⟩, hs'⟩
    · have hl1 := ho.length
      have hl2 := hnc.length
      simp only [Array.size_append, List.size_toArray, size_zeroCells, hl1, hl2, hzl, ← Nat.add_mul]
      congr 1
      omega
    · obtain ⟨l, a, b⟩ := hcs.at_ i x hi
      refine ⟨l, a, fun j v hj => ?_⟩
      have hb := b j v hj
      have hlt : i * R.sz + j < (olds ++ (Builtin.zeroCells z.cells ys.length).toList).length := (List.getElem?_eq_some_iff.1 hb).1
      rw [Array.getElem?_append_left (by simpa using hlt)]
      rw [show olds.toArray ++ (Builtin.zeroCells z.cells ys.length).toList.toArray = (olds ++ (Builtin.zeroCells z.cells ys.length).toList).toArray by simp, List.getElem?_toArray]
      exact hb
  rcases hp.2 with ⟨rfl, rfl⟩ | ⟨g, cur, rfl, hg, hsz, hl, hc, hx⟩
  · by_cases hm : ys.length = 0
    · have : ys = [] := List.eq_nil_of_length_eq_zero hm
      subst this
      exact ⟨A, 0, w, run_append_none_z (P := P) (z := z) (size := R.sz) (bytes := bytes) hzl (Nat.le_refl _), hs⟩
    · exact grow [] rfl (.inl rfl) (by simp; omega)
  · have hw : w.heap[g]? = some (.cells cur e (0, 0)) := hk _ _ (l1 _ _ hg)
    by_cases hroom : xs.length + ys.length ≤ c
    · have hfit2 : (xs.length + ys.length) * R.sz ≤ cur.toList.length := by simp [hsz]; exact Nat.mul_le_mul_right _ hroom
      have hr := run_append_room_z (P := P) (t := t) (u := u) (z := z) (size := R.sz) (bytes := bytes) (ty' := ty') (m := ys.length) (cur := cur.toList) hzl hone (by simpa using hw) hroom hfit2 (Nat.le_trans (Nat.mul_le_mul_right _ (by omega)) hfit) (by omega)
      refine ⟨_, _, _, by rw [hlen]; exact hr, ?_⟩
      have hsat1 : Sat W w (own g (.cells cur e (0, 0)) :: pers (fun M => (∀ i x, xs[i]? = some x → ∃ l, R.rep M x l ∧ ∀ j v, l[j]? = some v → cur[i * R.sz + j]? = some v) ∧ CellsOf M R ys (Builtin.zeroCells z.cells ys.length).toList) (fun hM h => ⟨fun i x hi => let ⟨l, a, b⟩ := h.1 i x hi; ⟨l, R.mono hM a, b⟩, cellsOf_mono hM h.2⟩) :: L) :=
        ⟨⟨M, k, hd, hM, hk, h1, h2, hd', l1, l2, hg, Mem.emp, h2, Mem.emp_disj _, Mem.emp_le _, Mem.le_refl _, ⟨hx, hnc⟩, hsep⟩, hs.os, hs.tape, hs.output, hs.size⟩
      have hset := Sat.set hsat1 (w' := w.setRow g (cur.toList.take (xs.length * R.sz) ++ (Builtin.zeroCells z.cells ys.length).toList ++ cur.toList.drop ((xs.length + ys.length) * R.sz)).toArray) (y := .cells (cur.toList.take (xs.length * R.sz) ++ (Builtin.zeroCells z.cells ys.length).toList ++ cur.toList.drop ((xs.length + ys.length) * R.sz)).toArray e (0, 0))
        (by simp only [World.setRow, Array.getElem?_modify, if_true, hw, Option.map_some]) (fun i hi => by simp only [World.setRow, Array.getElem?_modify]; rw [if_neg (Ne.symm hi)]) rfl rfl rfl (by simp [World.setRow])
      refine hset.gives fun N m ⟨k1, k2, kd, m1, m2, ha, k3, k4, kd', m3, m4, ⟨hx', hn'⟩, hs'⟩ => ?_
      have hnl := hn'.length
      have hcl : cur.toList.length = c * R.sz := by simp [hsz]
      refine ⟨k1, k4, Mem.disj_le kd (Mem.le_refl _) m4, m1, Mem.le_trans m4 m2, ⟨hmaxEl, .inr ⟨g, _, rfl, ha, ?_, by rw [hlen]; exact hroom, hc, fun i x hi => ?_⟩⟩, hs'⟩
      · simp only [List.size_toArray, List.length_append, List.length_take, List.length_drop, hnl, hcl]
        have e1 : (xs.length + ys.length) * R.sz = xs.length * R.sz + ys.length * R.sz := Nat.add_mul _ _ _
        omega
      · have e1 : (xs.length + ys.length) * R.sz = xs.length * R.sz + ys.length * R.sz := Nat.add_mul _ _ _
        have hle : xs.length * R.sz ≤ cur.toList.length := by omega
        have htl : (cur.toList.take (xs.length * R.sz)).length = xs.length * R.sz := by rw [List.length_take]; omega
        by_cases hi2 : i < xs.length
        · rw [List.getElem?_append_left hi2] at hi
          obtain ⟨l, a, b⟩ := hx' i x hi
          refine ⟨l, a, fun j v hj => ?_⟩
          have hjl : j < R.sz := by rw [← R.len a]; exact (List.getElem?_eq_some_iff.1 hj).1
          have hin : i * R.sz + j < xs.length * R.sz := by
            have : (i + 1) * R.sz ≤ xs.length * R.sz := Nat.mul_le_mul_right _ hi2
            rw [Nat.add_mul] at this
            omega
          have hb := b j v hj
          simp only [List.getElem?_toArray]
          rw [List.append_assoc, List.getElem?_append_left (by omega), List.getElem?_take, if_pos hin]
          simpa using hb
        · rw [List.getElem?_append_right (by omega)] at hi
          obtain ⟨l, a, b⟩ := hn'.at_ _ x hi
          refine ⟨l, a, fun j v hj => ?_⟩
          have hb := b j v hj
          have hlt : (i - xs.length) * R.sz + j < (Builtin.zeroCells z.cells ys.length).toList.length := (List.getElem?_eq_some_iff.1 hb).1
          have hge : xs.length * R.sz ≤ i * R.sz := Nat.mul_le_mul_right _ (by omega)
          have hsub : (i - xs.length) * R.sz = i * R.sz - xs.length * R.sz := Nat.sub_mul _ _ _
          simp only [List.getElem?_toArray]
          rw [List.append_assoc, List.getElem?_append_right (by omega), htl, show i * R.sz + j - xs.length * R.sz = (i - xs.length) * R.sz + j by omega, List.getElem?_append_left hlt]
          exact hb
    · obtain ⟨olds, h3, h4⟩ := cells_of_array (R := R) (M := M) (cur := cur) (o := 0) (xs := xs) (k := 0) (fun i x hi => by
        obtain ⟨l, a, b⟩ := hx i x hi
        exact ⟨l, a, fun j v hj => by rw [Nat.zero_add, Nat.zero_add]; exact b j v hj⟩)
      refine grow olds h3 (.inr ⟨_, rfl, fun j v hj => ?_⟩) (by omega)
      rw [Addr.add_plain, cell_of hw]
      simpa using h4 j v hj
theorem TL_append_zeros {x y : Operand} {t u e : TypeId} {k0 : IntKind} {z : Value} {bytes m : Nat} {L0 : List HP} (x0 : α) [ht : TyDesc P t (.slice e)] [hu : TyDesc P u (.int k0)] (hd : Nat.blt d n = true) (hx : ev E x = some (.slice A xs.length c)) (hy : ev E y = some (.int .i64 (m : Int))) [hf : FindO L A c α R e xs L0]
    [he : TyElem P e z R.sz bytes] {zl : List Value} (hz : partsOf z = some zl) (hb : Nat.blt 0 bytes = true) (hx0 : ∀ M, R.rep M x0 zl) (hfit : (xs.length + m) * bytes ≤ 140737488355328)
    (h : ∀ A' c', TL r n P ops rest ⟨D, (d, .slice A' (xs ++ List.replicate m x0).length c') :: E, osl R e A' c' (xs ++ List.replicate m x0) :: L0⟩ K) :
    TL r n P ops (⟨some d, .call { callee := .builtin .append, args := #[x, y], argTypes := #[t, u] }, ty, pos, af, none⟩ :: rest) ⟨D, E, L⟩ K :=
  TL_val rfl hd rfl (fun _ e => by cases e) fun W a w hh => by
    have hs := hh.2.gives hf.g
    have hzs : z.cells.size = R.sz := by rw [partsOf_eq hz, List.size_toArray]; exact R.len (hx0 Mem.emp)
    have hzz : ∀ k, (Builtin.zeroCells z.cells k).toList = zerosN k zl := fun k => by
      have := zerosN_array zl k
      unfold Builtin.zeroCells
      rw [List.size_toArray] at this
      rw [partsOf_eq hz, List.size_toArray, this]
    obtain ⟨A', c', w', hr, hs'⟩ := append_own_z (P := P) (t := t) (u := u) (ys := List.replicate m x0) (by simpa using hb) hzs hs (fun v hv => by
      rw [hzz] at hv
      exact (cellsOf_zeros (M := Mem.emp) (hx0 Mem.emp) _).one v hv) (fun N m' _ _ => by
      rw [hzz, List.length_replicate]; exact cellsOf_zeros (hx0 N) m) (by rw [List.length_replicate]; exact hfit) ty
    rw [List.length_replicate] at hr
    refine ⟨_, w', _, ?_, hs', h A' c'⟩
    simp [execOp, resolve, invoke, builtin, hh.1.ev hx, hh.1.ev hy, hr]
end
end Go.SL
set_option linter.unusedVariables false
set_option linter.unusedSimpArgs false
namespace Go.SL
open Go Go.Proofs
theorem isCount2_spec (L : List HP) (n : Int) : Fn Try.prog 43 #[.int .i64 n] L (fun v L' => v = .bool (decide (0 ≤ n ∧ n ≤ 2147483647)) ∧ L' = L) := by
  refine Fn_enter Try.func43 rfl rfl rfl rfl ?_
  refine T_region ?_
  refine TL_y rfl rfl (Y_assign rfl) ?_
  refine TL_nil ?_
  refine T_region ?_
  refine TL_y rfl rfl (Y_move rfl) ?_
  refine TL_y rfl rfl (Y_ge rfl rfl) ?_
  refine TL_both 4 8 (0 ≤ n ∧ n ≤ 2147483647) ?_ ?_
  · refine TL_y rfl rfl (Y_move rfl) ?_
    refine TL_splitd 5 rfl (fun h5 => ?_) (fun h5 => ?_)
    · refine TL_grun rfl rfl ?_
      refine TL_y rfl rfl (Y_move rfl) ?_
      refine TL_grun rfl rfl ?_
      refine TL_y rfl rfl (Y_le rfl rfl) ?_
      refine TL_y rfl rfl (Y_pick_t rfl rfl) ?_
      refine TL_chain_end rfl ?_ (by repeat (first | exact sub_refl | refine sub_ext rfl ?_)) GivesTo.g
      exact congrArg Value.bool (decide_eq_decide.2 (by omega))
    · refine TL_gskip rfl rfl rfl rfl ?_
      refine TL_gskip rfl rfl rfl rfl ?_
      refine TL_y rfl rfl (Y_pick_f rfl rfl) ?_
      refine TL_chain_end rfl ?_ (by repeat (first | exact sub_refl | refine sub_ext rfl ?_)) GivesTo.g
      exact congrArg Value.bool (decide_eq_false (by omega)).symm
  refine TL_y rfl rfl (Y_assign rfl) ?_
  refine TL_nil ?_
  refine T_ret ?_
  exact RetG_1 (.inl rfl) rfl (ResV.tmp rfl) GivesTo.g (⟨rfl, rfl⟩)
def wiV (v : List Int) (o : Nat) (x : Int) : List Int := (v ++ List.replicate (o + 1 - v.length) 0).set o x
theorem wiV_len (v : List Int) (o : Nat) (x : Int) : (wiV v o x).length = max v.length (o + 1) := by
  unfold wiV
  rw [List.length_set, List.length_append, List.length_replicate]; omega
theorem ofV_wi (v : List Int) (o : Nat) (x : Int) (q : Int) : ofV (wiV v o x) q = if q = (o : Int) then x else ofV v q := by
  unfold ofV
  by_cases h0 : q < 0
  · rw [if_pos h0, if_pos h0, if_neg (by omega)]
  · rw [if_neg h0, if_neg h0]
    have hl : o < (v ++ List.replicate (o + 1 - v.length) 0).length := by rw [List.length_append, List.length_replicate]; omega
    unfold wiV
    rw [List.getElem?_set]
    by_cases h1 : q = (o : Int)
    · subst h1
      rw [if_pos rfl]
      simp only [Int.toNat_natCast]
      rw [if_pos trivial, if_pos hl]; rfl
    · rw [if_neg h1, if_neg (by omega)]
      by_cases h2 : q.toNat < v.length
      · rw [List.getElem?_append_left h2]
      · rw [List.getElem?_append_right (by omega), List.getElem?_replicate, List.getElem?_eq_none (by omega)]
        split <;> rfl
theorem plain_len : ∀ v : List Int, (plainV v).length ≤ v.length
  | [] => Nat.le_refl _
  | x :: r => by
    unfold plainV
    have := plain_len r
    split
    · simp
    · simp only [List.length_cons]; omega
theorem vvWith_spec {L : List HP} {A : Option Addr} {c : Nat} {xs : List Int} (o : Nat) (x : Int) (hk : SlN L (intR .i64) A c xs) (hb : xs.length ≤ 1048576) (ho : o < 7) (hx : 0 ≤ x ∧ x ≤ 2147483647) : Fn Try.prog 20 #[.slice A xs.length c, .int .i64 (o : Int), .int .i64 x] L (fun v L' => ∃ A' c', v = .tuple #[.slice A' (plainV (wiV xs o x)).length c', .int .i64 0] ∧ L' = osl (intR .i64) 3 A' c' (plainV (wiV xs o x)) :: L) := by
  refine Fn_enter Try.func20 rfl rfl rfl rfl ?_
  refine T_region ?_
  refine TL_y rfl rfl (Y_assign rfl) ?_
  refine TL_y rfl rfl (Y_assign rfl) ?_
  refine TL_nil ?_
  refine T_seq ?_
  refine T_region ?_
  refine TL_y rfl rfl (Y_move rfl) ?_
  refine TL_y rfl rfl (Y_lt rfl rfl) ?_
  refine TL_y rfl rfl (Y_move rfl) ?_
  refine TL_name 11 (v' := .bool false) rfl (congrArg Value.bool (decide_eq_false (by omega))) ?_
  refine TL_grun rfl rfl ?_
  refine TL_y rfl rfl (Y_move rfl) ?_
  refine TL_grun rfl rfl ?_
  refine TL_y rfl rfl (Y_ge rfl rfl) ?_
  refine TL_y rfl rfl (Y_pick_f rfl rfl) ?_
  refine TL_y rfl rfl (Y_move rfl) ?_
  refine TL_name 15 (v' := .bool false) rfl (congrArg Value.bool (decide_eq_false (by omega))) ?_
  refine TL_grun rfl rfl ?_
  refine TL_y rfl rfl (Y_move rfl) ?_
  refine TL_grun rfl rfl ?_
  refine TL_call rfl rfl (isCount2_spec _ x) ?_
  rintro _ _ ⟨rfl, rfl⟩
  refine TL_name 17 (v' := .bool true) rfl (congrArg Value.bool (decide_eq_true hx)) ?_
  refine TL_grun rfl rfl ?_
  refine TL_y rfl rfl (Y_not_t rfl) ?_
  refine TL_y rfl rfl (Y_pick_f rfl rfl) ?_
  refine TL_nil ?_
  refine T_cond_false rfl ?_
  refine T_skip ?_
  refine thenS_normal ?_
  refine T_region ?_
  refine TL_y rfl rfl (Y_move rfl) ?_
  refine TL_call rfl rfl (cloneN_spec hk (by omega)) ?_
  rintro _ _ ⟨A21, c21, rfl, rfl⟩
  refine TL_y rfl rfl (Y_move rfl) ?_
  refine TL_y rfl rfl (Y_add rfl rfl (by omega)) ?_
  refine TL_name 23 (v' := .int .i64 ((o + 1 : Nat) : Int)) rfl (rfl) ?_
  refine TL_y rfl rfl (Y_move rfl) ?_
  refine TL_y rfl rfl (Y_len rfl) ?_
  refine TL_y rfl rfl (Y_sub rfl rfl (by omega)) ?_
  refine TL_y rfl rfl (Y_max rfl rfl) ?_
  refine TL_name 27 (v' := .int .i64 ((o + 1 - xs.length : Nat) : Int)) rfl (by congr 1; omega) ?_
  refine TL_append_zeros (R := intR .i64) (0 : Int) rfl rfl rfl rfl rfl (fun _ => ⟨rfl, by decide⟩) (by omega) ?_
  intro A28 c28
  refine TL_y rfl rfl (Y_assign rfl) ?_
  refine TL_nil ?_
  obtain ⟨u, hu⟩ : ∃ u, (xs ++ List.replicate (o + 1 - xs.length) (0 : Int))[o]? = some u := ⟨_, List.getElem?_eq_getElem (by rw [List.length_append, List.length_replicate]; omega)⟩
  refine T_region ?_
  refine TL_y rfl rfl (Y_move rfl) ?_
  refine TL_y rfl rfl (Y_move rfl) ?_
  refine TL_y rfl rfl (Y_move rfl) ?_
  refine TL_index_own rfl rfl rfl (rfl) (hu) ?_
  intro bi32 li32 hA32 hl32
  obtain ⟨lv, rfl⟩ := len_one hl32
  subst hA32
  refine TL_store_x rfl rfl rfl rfl rfl rfl ?_
  refine TL_unx (R := intR .i64) bi32 x (Knows.const fun _ => ⟨rfl, i64In_mk (by omega)⟩) ?_
  rw [show (xs ++ List.replicate (o + 1 - xs.length) (0 : Int)).set o x = wiV xs o x from rfl]
  refine TL_nil ?_
  have hwl := wiV_len xs o x
  refine T_region ?_
  refine TL_y rfl rfl (Y_move rfl) ?_
  refine TL_name 33 (v' := .slice (some ⟨bi32, 0, none⟩) (wiV xs o x).length c28) rfl (by unfold wiV; rw [List.length_set]) ?_
  refine TL_call rfl rfl (vvPlain_spec sln (by omega)) ?_
  rintro _ _ ⟨A34, c34, rfl, rfl⟩
  refine TL_y rfl rfl (Y_assign rfl) ?_
  refine TL_y rfl rfl (Y_assign rfl) ?_
  refine TL_nil ?_
  refine T_ret ?_
  exact RetG_2 (.inl rfl) rfl (ResV.tmp rfl) (ResV.tmp rfl) GivesTo.g (⟨A34, c34, rfl, rfl⟩)
/-! ### Events that have seen all -/
structure AdI (m : List EventD) (s : List Int) : Prop where
  len : s.length ≤ 6
  mem : ∀ e ∈ m, (0 ≤ e.dot.1 ∧ e.dot.1 ≤ 5) ∧ (1 ≤ e.dot.2 ∧ e.dot.2 ≤ 2147483646) ∧ ¬ 0 < ofV e.deps 6 ∧ e.dot.2 ≤ ofV s e.dot.1
theorem AdI.step {m : List EventD} {s s' : List Int} {x : EventD} (h : AdI m s) (hl : s'.length ≤ 6) (hx : (0 ≤ x.dot.1 ∧ x.dot.1 ≤ 5) ∧ (1 ≤ x.dot.2 ∧ x.dot.2 ≤ 2147483646) ∧ ¬ 0 < ofV x.deps 6) (hle : ∀ q, ofV s q ≤ ofV s' q) (hxs : x.dot.2 ≤ ofV s' x.dot.1) : AdI (m ++ [x]) s' := ⟨hl, fun e he => by
  rcases List.mem_append.1 he with he | he
  · have := h.mem e he
    have := hle e.dot.1
    exact ⟨by omega, by omega, by omega, by omega⟩
  · rw [List.mem_singleton.1 he]; exact ⟨hx.1, hx.2.1, hx.2.2, hxs⟩⟩
abbrev adE (s : List Int) (name sku : ByteArray) (qty : Int) (cl : Bool) : EventD := ⟨(6, 1), s, name, 0, sku, qty, cl⟩
theorem ad_goes {l : List EventD} {s : List Int} (h : AdI l s) (name sku : ByteArray) (qty : Int) (cl : Bool) : ¬ goesC l (adE s name sku qty cl) := by
  rintro ⟨x, hx, _, _, _, h4⟩
  have := (h.mem x hx).2.2.1
  unfold hasV at h4
  simp only at h4; omega
theorem ad_dot {l : List EventD} {s : List Int} (h : AdI l s) (name sku : ByteArray) (qty : Int) (cl : Bool) : ∀ e ∈ l, e.dot ≠ (adE s name sku qty cl).dot := fun e he h2 => by
  have := (h.mem e he).1
  rw [h2] at this
  simp only at this; omega
theorem ad_more {l : List EventD} {s : List Int} (hR : RightC l) (h : AdI l s) {name sku : ByteArray} {qty : Int} (hq : 0 ≤ qty ∧ qty ≤ 1000) : lineF (l ++ [adE s name sku qty false]) name sku = lineF l name sku + qty := by
  rw [line_more hR (x := adE s name sku qty false) hq (ad_dot h name sku qty false) rfl (ad_goes h name sku qty false) name sku, if_pos (by simp [ofC])]
theorem ad_set {l : List EventD} {s : List Int} (hR : RightC l) (h : AdI l s) {name sku : ByteArray} {qty : Int} (hq : 0 ≤ qty ∧ qty ≤ 1000) : lineF (l ++ [adE s name sku qty true]) name sku = qty :=
  line_set hR (x := adE s name sku qty true) hq (ad_dot h name sku qty true) rfl (ad_goes h name sku qty true) (fun hh => by
    unfold hasV at hh
    rw [ofV_out (by have := h.len; simp only; omega)] at hh
    omega) (fun e he => by
    have := h.mem e he
    exact ⟨by omega, this.2.2.2⟩)
structure AdSt where
  i : Nat
  A : Option Addr
  c : Nat
  s : List Int
set_option maxHeartbeats 1000000 in
theorem cartAdds_walk {L : List HP} {A : Option Addr} {c : Nat} {l : List EventD} (name sku : ByteArray) (qty : Int) (hk : SlK L eventR A c l) (hl : l.length ≤ 1048576) (hn : name.size ≤ maxEl) (hs : sku.size ≤ maxEl) : Fn Try.prog 6 #[.slice A l.length c, .string name, .string sku, .int .i64 qty] L (fun v L' => v = .bool true ∧ L' = L) := by
  refine Fn_enter Try.func6 rfl rfl rfl rfl ?_
  refine T_gives hk.lay ?_
  refine T_gives (slnil (R := intR .i64) (A := none) (c := 0)).lay ?_
  refine T_region ?_
  refine TL_y rfl rfl (Y_assign rfl) ?_
  refine TL_nil ?_
  refine T_seq ?_
  refine T_region ?_
  refine TL_call rfl rfl (lives11_spec _) ?_
  rintro _ _ ⟨rfl, rfl⟩
  refine TL_y rfl rfl (Y_not rfl) ?_
  refine TL_name 17 (v' := .bool false) rfl (rfl) ?_
  refine TL_nil ?_
  refine T_cond_false rfl ?_
  refine T_skip ?_
  refine thenS_normal ?_
  refine T_seq ?_
  refine Classical.byCases (p := RightC l) (fun hR => ?_) (fun hR => ?_)
  · refine T_region ?_
    refine TL_y rfl rfl (Y_move rfl) ?_
    refine TL_call rfl rfl (right11_spec slk) ?_
    rintro _ _ ⟨⟨r, rfl, hr⟩, rfl⟩
    obtain rfl := hr.2 hR
    refine TL_y rfl rfl (Y_not rfl) ?_
    refine TL_name 20 (v' := .bool false) rfl (rfl) ?_
    refine TL_y rfl rfl (Y_move rfl) ?_
    refine TL_both 7 28 (qty < 0 ∨ 1000 < qty) ?_ ?_
    · refine TL_grun rfl rfl ?_
      refine TL_y rfl rfl (Y_move rfl) ?_
      refine TL_grun rfl rfl ?_
      refine TL_y rfl rfl (Y_lt rfl rfl) ?_
      refine TL_y rfl rfl (Y_pick_f rfl rfl) ?_
      refine TL_y rfl rfl (Y_move rfl) ?_
      refine TL_splitd 25 rfl (fun h25 => ?_) (fun h25 => ?_)
      · refine TL_gskip rfl rfl rfl rfl ?_
        refine TL_gskip rfl rfl rfl rfl ?_
        refine TL_y rfl rfl (Y_pick_t rfl rfl) ?_
        refine TL_chain_end rfl ?_ (by repeat (first | exact sub_refl | refine sub_ext rfl ?_)) GivesTo.g
        exact congrArg Value.bool (decide_eq_true (by omega)).symm
      · refine TL_grun rfl rfl ?_
        refine TL_y rfl rfl (Y_move rfl) ?_
        refine TL_grun rfl rfl ?_
        refine TL_y rfl rfl (Y_gt rfl rfl) ?_
        refine TL_y rfl rfl (Y_pick_f rfl rfl) ?_
        refine TL_chain_end rfl ?_ (by repeat (first | exact sub_refl | refine sub_ext rfl ?_)) GivesTo.g
        exact congrArg Value.bool (decide_eq_decide.2 (by omega))
    refine TL_nil ?_
    refine T_if rfl (fun h28 => ?_) (fun h28 => ?_)
    · refine T_region ?_
      refine TL_y rfl rfl (Y_assign rfl) ?_
      refine TL_nil ?_
      refine T_ret ?_
      refine thenS_ret ?_
      exact RetG_1 (.inl rfl) rfl (ResV.tmp rfl) GivesTo.g (⟨rfl, rfl⟩)
    · refine T_skip ?_
      refine thenS_normal ?_
      refine T_region ?_
      refine TL_y rfl rfl (Y_assign rfl) ?_
      refine TL_nil ?_
      refine T_seq ?_
      refine T_region ?_
      refine TL_y rfl rfl (Y_assign rfl) ?_
      refine TL_nil ?_
      refine T_block ?_
      refine T_loopK (σ := AdSt) [0, 1, 2, 3] (fun g => g.i ≤ l.length ∧ AdI (l.take g.i) g.s) (fun g kv => (10, .int .i64 (g.i : Int)) :: (9, .slice g.A g.s.length g.c) :: kv) (fun g => sl (intR .i64) g.A g.c g.s :: sl eventR A c l :: L) (fun g => l.length - g.i) (⟨0, none, 0, []⟩) rfl (⟨Nat.zero_le _, ⟨by simp, by simp⟩⟩) (GivesTo.g) (sub_cons rfl (sub_cons rfl (sub_cons rfl (sub_cons rfl (sub_cons rfl (sub_cons rfl (sub_nil))))))) ?_
      rintro ⟨i, X, cx, s⟩ ⟨hi, hI⟩
      dsimp only at hi hI ⊢
      refine T_seq ?_
      refine T_region ?_
      refine TL_y rfl rfl (Y_move rfl) ?_
      refine TL_y rfl rfl (Y_move rfl) ?_
      refine TL_y rfl rfl (Y_len rfl) ?_
      refine TL_y rfl rfl (Y_lt rfl rfl) ?_
      refine TL_nil ?_
      refine T_if rfl (fun h32 => ?_) (fun h32 => ?_)
      · refine T_skip ?_
        refine thenS_normal ?_
        refine T_seq ?_
        refine T_block ?_
        obtain ⟨x, hx⟩ : ∃ x, l[i]? = some x := ⟨_, List.getElem?_eq_getElem (by omega)⟩
        have hsl := hI.len
        refine T_region ?_
        refine TL_y rfl rfl (Y_move rfl) ?_
        refine TL_y rfl rfl (Y_move rfl) ?_
        refine TL_index_n rfl rfl rfl (rfl) ((sln (A := A) (c := c))) (hx) ?_
        intro bn37 on37 hA37 hk37
        have hu37 := hx
        refine TL_y rfl rfl (Y_field_addr2 rfl) ?_
        refine TL_load_nx rfl rfl hk37 hu37 (fun _ => rfl) ?_
        intro p39 ok39
        simp only [List.cons_append, List.nil_append]
        refine TL_alloc rfl rfl ?_
        intro b11
        refine TL_store rfl rfl rfl rfl rfl rfl ?_
        refine TL_nil ?_
        refine T_seq ?_
        refine T_region ?_
        refine TL_y rfl rfl (Y_field_addr rfl) ?_
        refine TL_y rfl rfl (Y_load rfl rfl) ?_
        refine TL_y rfl rfl (Y_lt rfl rfl) ?_
        refine TL_y rfl rfl (Y_move rfl) ?_
        refine TL_splitd 43 rfl (fun h43 => ?_) (fun h43 => ?_)
        · refine TL_gskip rfl rfl rfl rfl ?_
          refine TL_gskip rfl rfl rfl rfl ?_
          refine TL_gskip rfl rfl rfl rfl ?_
          refine TL_y rfl rfl (Y_pick_t rfl rfl) ?_
          refine TL_y rfl rfl (Y_move rfl) ?_
          refine TL_gskip rfl rfl rfl rfl ?_
          refine TL_gskip rfl rfl rfl rfl ?_
          refine TL_gskip rfl rfl rfl rfl ?_
          refine TL_y rfl rfl (Y_pick_t rfl rfl) ?_
          refine TL_y rfl rfl (Y_move rfl) ?_
          refine TL_gskip rfl rfl rfl rfl ?_
          refine TL_gskip rfl rfl rfl rfl ?_
          refine TL_gskip rfl rfl rfl rfl ?_
          refine TL_y rfl rfl (Y_pick_t rfl rfl) ?_
          refine TL_y rfl rfl (Y_move rfl) ?_
          refine TL_gskip rfl rfl rfl rfl ?_
          refine TL_gskip rfl rfl rfl rfl ?_
          refine TL_gskip rfl rfl rfl rfl ?_
          refine TL_gskip rfl rfl rfl rfl ?_
          refine TL_gskip rfl rfl rfl rfl ?_
          refine TL_gskip rfl rfl rfl rfl ?_
          refine TL_gskip rfl rfl rfl rfl ?_
          refine TL_y rfl rfl (Y_pick_t rfl rfl) ?_
          refine TL_nil ?_
          refine T_cond_true rfl ?_
          refine T_region ?_
          refine TL_y rfl rfl (Y_assign rfl) ?_
          refine TL_nil ?_
          refine T_ret ?_
          refine thenS_ret ?_
          refine inB_ret ?_
          refine thenS_ret ?_
          refine thenS_ret ?_
          refine inB_ret ?_
          refine thenS_ret ?_
          exact RetG_1 (.inl rfl) rfl (ResV.tmp rfl) GivesTo.g (⟨rfl, rfl⟩)
        · refine TL_grun rfl rfl ?_
          refine TL_y rfl rfl (Y_field_addr rfl) ?_
          refine TL_grun rfl rfl ?_
          refine TL_y rfl rfl (Y_load rfl rfl) ?_
          refine TL_grun rfl rfl ?_
          refine TL_y rfl rfl (Y_gt rfl rfl) ?_
          refine TL_y rfl rfl (Y_pick_f rfl rfl) ?_
          refine TL_y rfl rfl (Y_move rfl) ?_
          refine TL_splitd 48 rfl (fun h48 => ?_) (fun h48 => ?_)
          · refine TL_gskip rfl rfl rfl rfl ?_
            refine TL_gskip rfl rfl rfl rfl ?_
            refine TL_gskip rfl rfl rfl rfl ?_
            refine TL_y rfl rfl (Y_pick_t rfl rfl) ?_
            refine TL_y rfl rfl (Y_move rfl) ?_
            refine TL_gskip rfl rfl rfl rfl ?_
            refine TL_gskip rfl rfl rfl rfl ?_
            refine TL_gskip rfl rfl rfl rfl ?_
            refine TL_y rfl rfl (Y_pick_t rfl rfl) ?_
            refine TL_y rfl rfl (Y_move rfl) ?_
            refine TL_gskip rfl rfl rfl rfl ?_
            refine TL_gskip rfl rfl rfl rfl ?_
            refine TL_gskip rfl rfl rfl rfl ?_
            refine TL_gskip rfl rfl rfl rfl ?_
            refine TL_gskip rfl rfl rfl rfl ?_
            refine TL_gskip rfl rfl rfl rfl ?_
            refine TL_gskip rfl rfl rfl rfl ?_
            refine TL_y rfl rfl (Y_pick_t rfl rfl) ?_
            refine TL_nil ?_
            refine T_cond_true rfl ?_
            refine T_region ?_
            refine TL_y rfl rfl (Y_assign rfl) ?_
            refine TL_nil ?_
            refine T_ret ?_
            refine thenS_ret ?_
            refine inB_ret ?_
            refine thenS_ret ?_
            refine thenS_ret ?_
            refine inB_ret ?_
            refine thenS_ret ?_
            exact RetG_1 (.inl rfl) rfl (ResV.tmp rfl) GivesTo.g (⟨rfl, rfl⟩)
          · refine TL_grun rfl rfl ?_
            refine TL_y rfl rfl (Y_field_addr rfl) ?_
            refine TL_grun rfl rfl ?_
            refine TL_y rfl rfl (Y_load rfl rfl) ?_
            refine TL_grun rfl rfl ?_
            refine TL_y rfl rfl (Y_lt rfl rfl) ?_
            refine TL_y rfl rfl (Y_pick_f rfl rfl) ?_
            refine TL_y rfl rfl (Y_move rfl) ?_
            refine TL_splitd 53 rfl (fun h53 => ?_) (fun h53 => ?_)
            · refine TL_gskip rfl rfl rfl rfl ?_
              refine TL_gskip rfl rfl rfl rfl ?_
              refine TL_gskip rfl rfl rfl rfl ?_
              refine TL_y rfl rfl (Y_pick_t rfl rfl) ?_
              refine TL_y rfl rfl (Y_move rfl) ?_
              refine TL_gskip rfl rfl rfl rfl ?_
              refine TL_gskip rfl rfl rfl rfl ?_
              refine TL_gskip rfl rfl rfl rfl ?_
              refine TL_gskip rfl rfl rfl rfl ?_
              refine TL_gskip rfl rfl rfl rfl ?_
              refine TL_gskip rfl rfl rfl rfl ?_
              refine TL_gskip rfl rfl rfl rfl ?_
              refine TL_y rfl rfl (Y_pick_t rfl rfl) ?_
              refine TL_nil ?_
              refine T_cond_true rfl ?_
              refine T_region ?_
              refine TL_y rfl rfl (Y_assign rfl) ?_
              refine TL_nil ?_
              refine T_ret ?_
              refine thenS_ret ?_
              refine inB_ret ?_
              refine thenS_ret ?_
              refine thenS_ret ?_
              refine inB_ret ?_
              refine thenS_ret ?_
              exact RetG_1 (.inl rfl) rfl (ResV.tmp rfl) GivesTo.g (⟨rfl, rfl⟩)
            · refine TL_grun rfl rfl ?_
              refine TL_y rfl rfl (Y_field_addr rfl) ?_
              refine TL_grun rfl rfl ?_
              refine TL_y rfl rfl (Y_load rfl rfl) ?_
              refine TL_grun rfl rfl ?_
              refine TL_y rfl rfl (Y_gt rfl rfl) ?_
              refine TL_y rfl rfl (Y_pick_f rfl rfl) ?_
              refine TL_y rfl rfl (Y_move rfl) ?_
              refine TL_splitd 58 rfl (fun h58 => ?_) (fun h58 => ?_)
              · refine TL_gskip rfl rfl rfl rfl ?_
                refine TL_gskip rfl rfl rfl rfl ?_
                refine TL_gskip rfl rfl rfl rfl ?_
                refine TL_gskip rfl rfl rfl rfl ?_
                refine TL_gskip rfl rfl rfl rfl ?_
                refine TL_gskip rfl rfl rfl rfl ?_
                refine TL_gskip rfl rfl rfl rfl ?_
                refine TL_y rfl rfl (Y_pick_t rfl rfl) ?_
                refine TL_nil ?_
                refine T_cond_true rfl ?_
                refine T_region ?_
                refine TL_y rfl rfl (Y_assign rfl) ?_
                refine TL_nil ?_
                refine T_ret ?_
                refine thenS_ret ?_
                refine inB_ret ?_
                refine thenS_ret ?_
                refine thenS_ret ?_
                refine inB_ret ?_
                refine thenS_ret ?_
                exact RetG_1 (.inl rfl) rfl (ResV.tmp rfl) GivesTo.g (⟨rfl, rfl⟩)
              · refine TL_grun rfl rfl ?_
                refine TL_y rfl rfl (Y_move rfl) ?_
                refine TL_grun rfl rfl ?_
                refine TL_y rfl rfl (Y_move rfl) ?_
                refine TL_grun rfl rfl ?_
                refine TL_index_n rfl rfl rfl (rfl) ((sln (A := A) (c := c))) (hx) ?_
                intro bn61 on61 hA61 hk61
                have hu61 := hx
                refine TL_grun rfl rfl ?_
                refine TL_y rfl rfl (Y_field_addr2 rfl) ?_
                refine TL_grun rfl rfl ?_
                refine TL_load_nx1 rfl rfl hk61 hu61 (fun _ => rfl) ?_
                intro p63 ok63
                simp only [List.cons_append, List.nil_append]
                refine TL_grun rfl rfl ?_
                refine TL_call rfl rfl (vvOf_spec (SlK.n slk) 6) ?_
                rintro _ _ ⟨rfl, rfl⟩
                refine TL_grun rfl rfl ?_
                refine TL_y rfl rfl (Y_gt rfl rfl) ?_
                refine TL_y rfl rfl (Y_pick_f rfl rfl) ?_
                refine TL_nil ?_
                refine T_if rfl (fun h66 => ?_) (fun h66 => ?_)
                · refine T_region ?_
                  refine TL_y rfl rfl (Y_assign rfl) ?_
                  refine TL_nil ?_
                  refine T_ret ?_
                  refine thenS_ret ?_
                  refine inB_ret ?_
                  refine thenS_ret ?_
                  refine thenS_ret ?_
                  refine inB_ret ?_
                  refine thenS_ret ?_
                  exact RetG_1 (.inl rfl) rfl (ResV.tmp rfl) GivesTo.g (⟨rfl, rfl⟩)
                · refine T_skip ?_
                  refine thenS_normal ?_
                  refine T_region_draw _ [0, 1, 0, 0, 8, 28, 63] [] [(0, true), (1, true), (2, true), (3, true), (4, true), (5, false), (6, true)] (by kernel_rfl) (by decide +kernel) (Gives.refl _) ?_
                  refine TF_y rfl rfl (Y_field_addr rfl) ?_
                  refine TF_y rfl rfl (Y_load rfl rfl) ?_
                  refine TF_y rfl rfl (Y_move rfl) ?_
                  refine TF_y rfl rfl (Y_field_addr rfl) ?_
                  refine TF_y rfl rfl (Y_load rfl rfl) ?_
                  refine TF_anchor rfl ?_
                  refine TL_call rfl rfl (vvOf_spec (SlK.n slk) x.dot.1) ?_
                  rintro _ _ ⟨rfl, rfl⟩
                  refine TF_end GivesTo.g ?_
                  refine TF_y rfl rfl (Y_gt rfl rfl) ?_
                  refine TF_nil ?_
                  refine T_if rfl (fun h73 => ?_) (fun h73 => ?_)
                  · obtain ⟨o, ho⟩ : ∃ o : Nat, x.dot.1 = (o : Int) := ⟨x.dot.1.toNat, by omega⟩
                    have hwl := wiV_len s o x.dot.2
                    have hpl := plain_len (wiV s o x.dot.2)
                    refine T_region_last ?_
                    refine TL_y rfl rfl (Y_move rfl) ?_
                    refine TL_y rfl rfl (Y_field_addr rfl) ?_
                    refine TL_y rfl rfl (Y_load rfl rfl) ?_
                    refine TL_name 77 (v' := .int .i64 (o : Int)) rfl (by rw [ho]) ?_
                    refine TL_y rfl rfl (Y_field_addr rfl) ?_
                    refine TL_y rfl rfl (Y_load rfl rfl) ?_
                    refine TL_call rfl rfl (vvWith_spec o x.dot.2 (SlK.n slk) (by omega) (by omega) (by omega)) ?_
                    rintro _ _ ⟨A80, c80, rfl, rfl⟩
                    refine TL_freeze_osl ?_
                    refine TL_y rfl rfl (Y_move rfl) ?_
                    refine TL_y rfl rfl (Y_extract rfl rfl) ?_
                    refine TL_y rfl rfl (Y_extract rfl rfl) ?_
                    refine TL_y rfl rfl (Y_assign rfl) ?_
                    refine TL_nil ?_
                    refine inB_normal ?_
                    refine thenS_normal ?_
                    refine T_region_last ?_
                    refine TL_y rfl rfl (Y_move rfl) ?_
                    refine TL_name 33 (v' := .int .i64 (i : Int)) rfl (rfl) ?_
                    refine TL_y rfl rfl (Y_add rfl rfl (by omega)) ?_
                    refine TL_name 34 (v' := .int .i64 ((i + 1 : Nat) : Int)) rfl (rfl) ?_
                    refine TL_y rfl rfl (Y_assign rfl) ?_
                    refine TL_nil ?_
                    refine thenS_normal ?_
                    exact ⟨⟨i + 1, A80, c80, plainV (wiV s o x.dot.2)⟩, ⟨by simp only; omega, by simp only; rw [takeAt hx]; exact hI.step (by omega) ⟨by omega, by omega, by omega⟩ (fun q => by rw [ofV_plain, ofV_wi]; split; (rename_i e; rw [e, ← ho]; omega); omega) (by rw [ofV_plain, ofV_wi, if_pos ho]; omega)⟩, by simp only; omega, holds_to (sub_cons rfl (sub_cons rfl (sub_cons rfl (sub_cons rfl (sub_cons rfl (sub_cons rfl (sub_nil))))))) GivesTo.g⟩
                  · refine T_skip ?_
                    refine inB_normal ?_
                    refine thenS_normal ?_
                    refine T_region_last ?_
                    refine TL_y rfl rfl (Y_move rfl) ?_
                    refine TL_name 33 (v' := .int .i64 (i : Int)) rfl (rfl) ?_
                    refine TL_y rfl rfl (Y_add rfl rfl (by omega)) ?_
                    refine TL_name 34 (v' := .int .i64 ((i + 1 : Nat) : Int)) rfl (rfl) ?_
                    refine TL_y rfl rfl (Y_assign rfl) ?_
                    refine TL_nil ?_
                    refine thenS_normal ?_
                    exact ⟨⟨i + 1, X, cx, s⟩, ⟨by simp only; omega, by simp only; rw [takeAt hx]; exact hI.step hsl ⟨by omega, by omega, by omega⟩ (fun q => Int.le_refl _) (by omega)⟩, by simp only; omega, holds_to (sub_cons rfl (sub_cons rfl (sub_cons rfl (sub_cons rfl (sub_cons rfl (sub_cons rfl (sub_nil))))))) GivesTo.g⟩
      · refine T_exit ?_
        refine thenS_exit ?_
        refine thenS_exit ?_
        refine inB_hit ?_
        refine thenS_normal ?_
        rw [List.take_of_length_le (show l.length ≤ i by omega)] at hI
        have hlb := lineF_bound hR.qty name sku
        have hsl := hI.len
        have hok : ∀ cl, eventOk (adE s name sku qty cl) := fun cl => ⟨i64In_mk (by simp only; omega), i64In_mk (by simp only; omega), by simp only; omega, hn, i64In_mk (by simp only; omega), hs, i64In_mk (by simp only; omega)⟩
        have hqs : ∀ cl, ∀ e ∈ l ++ [adE s name sku qty cl], 0 ≤ e.qty ∧ e.qty ≤ 1000 := fun cl => qty_snoc hR.qty (by simp only; omega)
        refine T_region ?_
        refine TL_y rfl rfl (Y_build rfl rfl) ?_
        refine TL_y rfl rfl (Y_move rfl) ?_
        refine TL_y rfl rfl (Y_move rfl) ?_
        refine TL_y rfl rfl (Y_move rfl) ?_
        refine TL_y rfl rfl (Y_move rfl) ?_
        refine TL_y rfl rfl (Y_build rfl rfl) ?_
        refine TL_alloc rfl rfl ?_
        intro b12
        refine TL_store rfl rfl rfl rfl rfl rfl ?_
        refine TL_nil ?_
        refine T_region ?_
        refine TL_y rfl rfl (Y_move rfl) ?_
        refine TL_y rfl rfl (Y_move rfl) ?_
        refine TL_call rfl rfl (lines_spec name (slk (A := A) (c := c)) (by omega) hR.qty) ?_
        rintro _ _ ⟨A91, c91, xs91, rfl, rfl, hx91, hl91⟩
        refine TL_y rfl rfl (Y_move rfl) ?_
        refine TL_call rfl rfl (of11_spec sku sln) ?_
        rintro _ _ ⟨rfl, rfl⟩
        refine TL_name 93 (v' := .int .i64 (lineF l name sku)) rfl (by rw [hx91.of hR.qty]) ?_
        refine TL_y rfl rfl (Y_assign rfl) ?_
        refine TL_nil ?_
        refine T_rd [0, 0, 3, 0, 8, 31, 0, 127, 0, 511, 1023] (by kernel_rfl) (by decide +kernel) ?_
        refine RD_pair 0 4 (by decide) ?_ ?_
        · refine RD_pair 2 4 (by decide) ?_ ?_
          · refine RD_leaf (cells b12 (eventC (adE s name sku qty false) (X, cx)) 29 :: []) [0, 0, 3, 0, 15, 31, 0, 127, 0, 511, 1023] [] [(1, true), (3, true), (6, true), (8, true), (0, false), (2, false), (4, false), (5, false), (7, false), (9, false), (10, true)] (by decide +kernel) GivesTo.g ?_
            refine TF_y rfl rfl (Y_move rfl) ?_
            refine TF_y rfl rfl (Y_load_agg rfl rfl) ?_
            refine TF_y rfl rfl (Y_move rfl) ?_
            refine TF_y rfl rfl (Y_move rfl) ?_
            refine TF_anchor rfl ?_
            refine TL_build_slice rfl rfl rfl rfl rfl rfl ?_
            intro b94
            refine TL_osl (k := 0) eventR [] (Knows.const fun M => rfl) rfl (by simp) ?_
            refine TL_name 94 (v' := .slice (some ⟨b94, 0, none⟩) ([] : List EventD).length 0) rfl rfl ?_
            refine TF_end GivesTo.g ?_
            refine TF_anchor rfl ?_
            refine TL_append rfl rfl rfl rfl rfl slk (by simp only [List.length_nil]; omega) ?_
            intro A96 c96
            simp only [List.nil_append]
            refine TF_end GivesTo.g ?_
            refine TF_anchor rfl ?_
            refine TL_build_slice rfl rfl rfl rfl rfl rfl ?_
            intro b98
            refine TL_osl (k := 1) eventR [adE s name sku qty false] (cells_one' (ex_rep (X, cx) (sep_sl slk) (hok false))) rfl (by decide) ?_
            refine TL_freeze_osl ?_
            refine TL_name 98 (v' := .slice (some ⟨b98, 0, none⟩) [adE s name sku qty false].length 1) rfl rfl ?_
            refine TF_end GivesTo.g ?_
            refine TF_anchor rfl ?_
            refine TL_append rfl rfl rfl rfl rfl slk (by simp only [List.length_cons, List.length_nil]; omega) ?_
            intro A99 c99
            refine TL_freeze_osl ?_
            refine TF_end GivesTo.g ?_
            refine TF_anchor rfl ?_
            refine TL_call rfl rfl (lines_spec name slk (by simp only [List.length_append, List.length_cons, List.length_nil]; omega) (hqs false)) ?_
            rintro _ _ ⟨A101, c101, xs101, rfl, rfl, hx101, hl101⟩
            refine TF_end GivesTo.g ?_
            refine TF_anchor rfl ?_
            refine TL_call rfl rfl (of11_spec sku sln) ?_
            rintro _ _ ⟨rfl, rfl⟩
            refine TL_name 103 (v' := .int .i64 (lineF l name sku + qty)) rfl (by rw [hx101.of (hqs false), ad_more hR hI (by omega)]) ?_
            refine TF_end GivesTo.g ?_
            refine TF_y rfl rfl (Y_assign rfl) ?_
            refine TF_nil ?_
            refine thenS_normal ?_
            refine T_region ?_
            refine TL_y rfl rfl (Y_field_addr rfl) ?_
            refine TL_store rfl rfl rfl rfl rfl rfl ?_
            refine TL_nil ?_
            refine T_rd [0, 0, 3, 0, 8, 31, 0, 127, 0, 511, 1023] (by kernel_rfl) (by decide +kernel) ?_
            refine RD_pair 0 4 (by decide) ?_ ?_
            · refine RD_pair 2 4 (by decide) ?_ ?_
              · refine RD_leaf (cells b12 (eventC (adE s name sku qty true) (X, cx)) 29 :: []) [0, 0, 3, 0, 15, 31, 0, 127, 0, 511, 1023] [] [(1, true), (3, true), (6, true), (8, true), (0, false), (2, false), (4, false), (5, false), (7, false), (9, false), (10, true)] (by decide +kernel) GivesTo.g ?_
                refine TF_y rfl rfl (Y_move rfl) ?_
                refine TF_y rfl rfl (Y_load_agg rfl rfl) ?_
                refine TF_y rfl rfl (Y_move rfl) ?_
                refine TF_y rfl rfl (Y_move rfl) ?_
                refine TF_anchor rfl ?_
                refine TL_build_slice rfl rfl rfl rfl rfl rfl ?_
                intro b105
                refine TL_osl (k := 0) eventR [] (Knows.const fun M => rfl) rfl (by simp) ?_
                refine TL_name 105 (v' := .slice (some ⟨b105, 0, none⟩) ([] : List EventD).length 0) rfl rfl ?_
                refine TF_end GivesTo.g ?_
                refine TF_anchor rfl ?_
                refine TL_append rfl rfl rfl rfl rfl slk (by simp only [List.length_nil]; omega) ?_
                intro A107 c107
                simp only [List.nil_append]
                refine TF_end GivesTo.g ?_
                refine TF_anchor rfl ?_
                refine TL_build_slice rfl rfl rfl rfl rfl rfl ?_
                intro b109
                refine TL_osl (k := 1) eventR [adE s name sku qty true] (cells_one' (ex_rep (X, cx) (sep_sl slk) (hok true))) rfl (by decide) ?_
                refine TL_freeze_osl ?_
                refine TL_name 109 (v' := .slice (some ⟨b109, 0, none⟩) [adE s name sku qty true].length 1) rfl rfl ?_
                refine TF_end GivesTo.g ?_
                refine TF_anchor rfl ?_
                refine TL_append rfl rfl rfl rfl rfl slk (by simp only [List.length_cons, List.length_nil]; omega) ?_
                intro A110 c110
                refine TL_freeze_osl ?_
                refine TF_end GivesTo.g ?_
                refine TF_anchor rfl ?_
                refine TL_call rfl rfl (lines_spec name slk (by simp only [List.length_append, List.length_cons, List.length_nil]; omega) (hqs true)) ?_
                rintro _ _ ⟨A112, c112, xs112, rfl, rfl, hx112, hl112⟩
                refine TF_end GivesTo.g ?_
                refine TF_anchor rfl ?_
                refine TL_call rfl rfl (of11_spec sku sln) ?_
                rintro _ _ ⟨rfl, rfl⟩
                refine TL_name 114 (v' := .int .i64 qty) rfl (by rw [hx112.of (hqs true), ad_set hR hI (by omega)]) ?_
                refine TF_end GivesTo.g ?_
                refine TF_y rfl rfl (Y_assign rfl) ?_
                refine TF_nil ?_
                refine thenS_normal ?_
                refine T_region ?_
                refine TL_y rfl rfl (Y_move rfl) ?_
                refine TL_y rfl rfl (Y_move rfl) ?_
                refine TL_y rfl rfl (Y_move rfl) ?_
                refine TL_y rfl rfl (Y_add rfl rfl (by omega)) ?_
                refine TL_y rfl rfl (Y_eq rfl rfl) ?_
                refine TL_name 119 (v' := .bool true) rfl (congrArg Value.bool (decide_eq_true rfl)) ?_
                refine TL_y rfl rfl (Y_move rfl) ?_
                refine TL_grun rfl rfl ?_
                refine TL_y rfl rfl (Y_move rfl) ?_
                refine TL_grun rfl rfl ?_
                refine TL_y rfl rfl (Y_move rfl) ?_
                refine TL_grun rfl rfl ?_
                refine TL_y rfl rfl (Y_eq rfl rfl) ?_
                refine TL_name 123 (v' := .bool true) rfl (congrArg Value.bool (decide_eq_true rfl)) ?_
                refine TL_y rfl rfl (Y_pick_t rfl rfl) ?_
                refine TL_y rfl rfl (Y_assign rfl) ?_
                refine TL_nil ?_
                refine T_ret ?_
                exact RetG_1 (.inl rfl) rfl (ResV.tmp rfl) GivesTo.g (⟨rfl, rfl⟩)
              · refine RD_leaf (cells b12 (eventC (adE s name sku qty true) (X, cx)) 29 :: []) [0, 0, 27, 0, 9, 31, 0, 127, 0, 511, 1023] [] [(1, true), (3, true), (6, true), (8, true), (0, false), (4, false), (2, false), (5, false), (7, false), (9, false), (10, true)] (by decide +kernel) GivesTo.g ?_
                refine TF_y rfl rfl (Y_move rfl) ?_
                refine TF_y rfl rfl (Y_load_agg rfl rfl) ?_
                refine TF_y rfl rfl (Y_move rfl) ?_
                refine TF_y rfl rfl (Y_move rfl) ?_
                refine TF_anchor rfl ?_
                refine TL_build_slice rfl rfl rfl rfl rfl rfl ?_
                intro b105
                refine TL_osl (k := 0) eventR [] (Knows.const fun M => rfl) rfl (by simp) ?_
                refine TL_name 105 (v' := .slice (some ⟨b105, 0, none⟩) ([] : List EventD).length 0) rfl rfl ?_
                refine TF_end GivesTo.g ?_
                refine TF_anchor rfl ?_
                refine TL_build_slice rfl rfl rfl rfl rfl rfl ?_
                intro b109
                refine TL_osl (k := 1) eventR [adE s name sku qty true] (cells_one' (ex_rep (X, cx) (sep_sl slk) (hok true))) rfl (by decide) ?_
                refine TL_freeze_osl ?_
                refine TL_name 109 (v' := .slice (some ⟨b109, 0, none⟩) [adE s name sku qty true].length 1) rfl rfl ?_
                refine TF_end GivesTo.g ?_
                refine TF_anchor rfl ?_
                refine TL_append rfl rfl rfl rfl rfl slk (by simp only [List.length_nil]; omega) ?_
                intro A107 c107
                simp only [List.nil_append]
                refine TF_end GivesTo.g ?_
                refine TF_anchor rfl ?_
                refine TL_append rfl rfl rfl rfl rfl slk (by simp only [List.length_cons, List.length_nil]; omega) ?_
                intro A110 c110
                refine TL_freeze_osl ?_
                refine TF_end GivesTo.g ?_
                refine TF_anchor rfl ?_
                refine TL_call rfl rfl (lines_spec name slk (by simp only [List.length_append, List.length_cons, List.length_nil]; omega) (hqs true)) ?_
                rintro _ _ ⟨A112, c112, xs112, rfl, rfl, hx112, hl112⟩
                refine TF_end GivesTo.g ?_
                refine TF_anchor rfl ?_
                refine TL_call rfl rfl (of11_spec sku sln) ?_
                rintro _ _ ⟨rfl, rfl⟩
                refine TL_name 114 (v' := .int .i64 qty) rfl (by rw [hx112.of (hqs true), ad_set hR hI (by omega)]) ?_
                refine TF_end GivesTo.g ?_
                refine TF_y rfl rfl (Y_assign rfl) ?_
                refine TF_nil ?_
                refine thenS_normal ?_
                refine T_region ?_
                refine TL_y rfl rfl (Y_move rfl) ?_
                refine TL_y rfl rfl (Y_move rfl) ?_
                refine TL_y rfl rfl (Y_move rfl) ?_
                refine TL_y rfl rfl (Y_add rfl rfl (by omega)) ?_
                refine TL_y rfl rfl (Y_eq rfl rfl) ?_
                refine TL_name 119 (v' := .bool true) rfl (congrArg Value.bool (decide_eq_true rfl)) ?_
                refine TL_y rfl rfl (Y_move rfl) ?_
                refine TL_grun rfl rfl ?_
                refine TL_y rfl rfl (Y_move rfl) ?_
                refine TL_grun rfl rfl ?_
                refine TL_y rfl rfl (Y_move rfl) ?_
                refine TL_grun rfl rfl ?_
                refine TL_y rfl rfl (Y_eq rfl rfl) ?_
                refine TL_name 123 (v' := .bool true) rfl (congrArg Value.bool (decide_eq_true rfl)) ?_
                refine TL_y rfl rfl (Y_pick_t rfl rfl) ?_
                refine TL_y rfl rfl (Y_assign rfl) ?_
                refine TL_nil ?_
                refine T_ret ?_
                exact RetG_1 (.inl rfl) rfl (ResV.tmp rfl) GivesTo.g (⟨rfl, rfl⟩)
            · refine RD_leaf (cells b12 (eventC (adE s name sku qty true) (X, cx)) 29 :: []) [24, 0, 27, 0, 8, 31, 0, 127, 0, 511, 1023] [] [(1, true), (3, true), (6, true), (8, true), (4, false), (0, false), (2, false), (5, false), (7, false), (9, false), (10, true)] (by decide +kernel) GivesTo.g ?_
              refine TF_y rfl rfl (Y_move rfl) ?_
              refine TF_y rfl rfl (Y_load_agg rfl rfl) ?_
              refine TF_y rfl rfl (Y_move rfl) ?_
              refine TF_y rfl rfl (Y_move rfl) ?_
              refine TF_anchor rfl ?_
              refine TL_build_slice rfl rfl rfl rfl rfl rfl ?_
              intro b109
              refine TL_osl (k := 1) eventR [adE s name sku qty true] (cells_one' (ex_rep (X, cx) (sep_sl slk) (hok true))) rfl (by decide) ?_
              refine TL_freeze_osl ?_
              refine TL_name 109 (v' := .slice (some ⟨b109, 0, none⟩) [adE s name sku qty true].length 1) rfl rfl ?_
              refine TF_end GivesTo.g ?_
              refine TF_anchor rfl ?_
              refine TL_build_slice rfl rfl rfl rfl rfl rfl ?_
              intro b105
              refine TL_osl (k := 0) eventR [] (Knows.const fun M => rfl) rfl (by simp) ?_
              refine TL_name 105 (v' := .slice (some ⟨b105, 0, none⟩) ([] : List EventD).length 0) rfl rfl ?_
              refine TF_end GivesTo.g ?_
              refine TF_anchor rfl ?_
              refine TL_append rfl rfl rfl rfl rfl slk (by simp only [List.length_nil]; omega) ?_
              intro A107 c107
              simp only [List.nil_append]
              refine TF_end GivesTo.g ?_
              refine TF_anchor rfl ?_
              refine TL_append rfl rfl rfl rfl rfl slk (by simp only [List.length_cons, List.length_nil]; omega) ?_
              intro A110 c110
              refine TL_freeze_osl ?_
              refine TF_end GivesTo.g ?_
              refine TF_anchor rfl ?_
              refine TL_call rfl rfl (lines_spec name slk (by simp only [List.length_append, List.length_cons, List.length_nil]; omega) (hqs true)) ?_
              rintro _ _ ⟨A112, c112, xs112, rfl, rfl, hx112, hl112⟩
              refine TF_end GivesTo.g ?_
              refine TF_anchor rfl ?_
              refine TL_call rfl rfl (of11_spec sku sln) ?_
              rintro _ _ ⟨rfl, rfl⟩
              refine TL_name 114 (v' := .int .i64 qty) rfl (by rw [hx112.of (hqs true), ad_set hR hI (by omega)]) ?_
              refine TF_end GivesTo.g ?_
              refine TF_y rfl rfl (Y_assign rfl) ?_
              refine TF_nil ?_
              refine thenS_normal ?_
              refine T_region ?_
              refine TL_y rfl rfl (Y_move rfl) ?_
              refine TL_y rfl rfl (Y_move rfl) ?_
              refine TL_y rfl rfl (Y_move rfl) ?_
              refine TL_y rfl rfl (Y_add rfl rfl (by omega)) ?_
              refine TL_y rfl rfl (Y_eq rfl rfl) ?_
              refine TL_name 119 (v' := .bool true) rfl (congrArg Value.bool (decide_eq_true rfl)) ?_
              refine TL_y rfl rfl (Y_move rfl) ?_
              refine TL_grun rfl rfl ?_
              refine TL_y rfl rfl (Y_move rfl) ?_
              refine TL_grun rfl rfl ?_
              refine TL_y rfl rfl (Y_move rfl) ?_
              refine TL_grun rfl rfl ?_
              refine TL_y rfl rfl (Y_eq rfl rfl) ?_
              refine TL_name 123 (v' := .bool true) rfl (congrArg Value.bool (decide_eq_true rfl)) ?_
              refine TL_y rfl rfl (Y_pick_t rfl rfl) ?_
              refine TL_y rfl rfl (Y_assign rfl) ?_
              refine TL_nil ?_
              refine T_ret ?_
              exact RetG_1 (.inl rfl) rfl (ResV.tmp rfl) GivesTo.g (⟨rfl, rfl⟩)
          · refine RD_leaf (cells b12 (eventC (adE s name sku qty false) (X, cx)) 29 :: []) [0, 0, 27, 0, 9, 31, 0, 127, 0, 511, 1023] [] [(1, true), (3, true), (6, true), (8, true), (0, false), (4, false), (2, false), (5, false), (7, false), (9, false), (10, true)] (by decide +kernel) GivesTo.g ?_
            refine TF_y rfl rfl (Y_move rfl) ?_
            refine TF_y rfl rfl (Y_load_agg rfl rfl) ?_
            refine TF_y rfl rfl (Y_move rfl) ?_
            refine TF_y rfl rfl (Y_move rfl) ?_
            refine TF_anchor rfl ?_
            refine TL_build_slice rfl rfl rfl rfl rfl rfl ?_
            intro b94
            refine TL_osl (k := 0) eventR [] (Knows.const fun M => rfl) rfl (by simp) ?_
            refine TL_name 94 (v' := .slice (some ⟨b94, 0, none⟩) ([] : List EventD).length 0) rfl rfl ?_
            refine TF_end GivesTo.g ?_
            refine TF_anchor rfl ?_
            refine TL_build_slice rfl rfl rfl rfl rfl rfl ?_
            intro b98
            refine TL_osl (k := 1) eventR [adE s name sku qty false] (cells_one' (ex_rep (X, cx) (sep_sl slk) (hok false))) rfl (by decide) ?_
            refine TL_freeze_osl ?_
            refine TL_name 98 (v' := .slice (some ⟨b98, 0, none⟩) [adE s name sku qty false].length 1) rfl rfl ?_
            refine TF_end GivesTo.g ?_
            refine TF_anchor rfl ?_
            refine TL_append rfl rfl rfl rfl rfl slk (by simp only [List.length_nil]; omega) ?_
            intro A96 c96
            simp only [List.nil_append]
            refine TF_end GivesTo.g ?_
            refine TF_anchor rfl ?_
            refine TL_append rfl rfl rfl rfl rfl slk (by simp only [List.length_cons, List.length_nil]; omega) ?_
            intro A99 c99
            refine TL_freeze_osl ?_
            refine TF_end GivesTo.g ?_
            refine TF_anchor rfl ?_
            refine TL_call rfl rfl (lines_spec name slk (by simp only [List.length_append, List.length_cons, List.length_nil]; omega) (hqs false)) ?_
            rintro _ _ ⟨A101, c101, xs101, rfl, rfl, hx101, hl101⟩
            refine TF_end GivesTo.g ?_
            refine TF_anchor rfl ?_
            refine TL_call rfl rfl (of11_spec sku sln) ?_
            rintro _ _ ⟨rfl, rfl⟩
            refine TL_name 103 (v' := .int .i64 (lineF l name sku + qty)) rfl (by rw [hx101.of (hqs false), ad_more hR hI (by omega)]) ?_
            refine TF_end GivesTo.g ?_
            refine TF_y rfl rfl (Y_assign rfl) ?_
            refine TF_nil ?_
            refine thenS_normal ?_
            refine T_region ?_
            refine TL_y rfl rfl (Y_field_addr rfl) ?_
            refine TL_store rfl rfl rfl rfl rfl rfl ?_
            refine TL_nil ?_
            refine T_rd [0, 0, 3, 0, 8, 31, 0, 127, 0, 511, 1023] (by kernel_rfl) (by decide +kernel) ?_
            refine RD_pair 0 4 (by decide) ?_ ?_
            · refine RD_pair 2 4 (by decide) ?_ ?_
              · refine RD_leaf (cells b12 (eventC (adE s name sku qty true) (X, cx)) 29 :: []) [0, 0, 3, 0, 15, 31, 0, 127, 0, 511, 1023] [] [(1, true), (3, true), (6, true), (8, true), (0, false), (2, false), (4, false), (5, false), (7, false), (9, false), (10, true)] (by decide +kernel) GivesTo.g ?_
                refine TF_y rfl rfl (Y_move rfl) ?_
                refine TF_y rfl rfl (Y_load_agg rfl rfl) ?_
                refine TF_y rfl rfl (Y_move rfl) ?_
                refine TF_y rfl rfl (Y_move rfl) ?_
                refine TF_anchor rfl ?_
                refine TL_build_slice rfl rfl rfl rfl rfl rfl ?_
                intro b105
                refine TL_osl (k := 0) eventR [] (Knows.const fun M => rfl) rfl (by simp) ?_
                refine TL_name 105 (v' := .slice (some ⟨b105, 0, none⟩) ([] : List EventD).length 0) rfl rfl ?_
                refine TF_end GivesTo.g ?_
                refine TF_anchor rfl ?_
                refine TL_append rfl rfl rfl rfl rfl slk (by simp only [List.length_nil]; omega) ?_
                intro A107 c107
                simp only [List.nil_append]
                refine TF_end GivesTo.g ?_
                refine TF_anchor rfl ?_
                refine TL_build_slice rfl rfl rfl rfl rfl rfl ?_
                intro b109
                refine TL_osl (k := 1) eventR [adE s name sku qty true] (cells_one' (ex_rep (X, cx) (sep_sl slk) (hok true))) rfl (by decide) ?_
                refine TL_freeze_osl ?_
                refine TL_name 109 (v' := .slice (some ⟨b109, 0, none⟩) [adE s name sku qty true].length 1) rfl rfl ?_
                refine TF_end GivesTo.g ?_
                refine TF_anchor rfl ?_
                refine TL_append rfl rfl rfl rfl rfl slk (by simp only [List.length_cons, List.length_nil]; omega) ?_
                intro A110 c110
                refine TL_freeze_osl ?_
                refine TF_end GivesTo.g ?_
                refine TF_anchor rfl ?_
                refine TL_call rfl rfl (lines_spec name slk (by simp only [List.length_append, List.length_cons, List.length_nil]; omega) (hqs true)) ?_
                rintro _ _ ⟨A112, c112, xs112, rfl, rfl, hx112, hl112⟩
                refine TF_end GivesTo.g ?_
                refine TF_anchor rfl ?_
                refine TL_call rfl rfl (of11_spec sku sln) ?_
                rintro _ _ ⟨rfl, rfl⟩
                refine TL_name 114 (v' := .int .i64 qty) rfl (by rw [hx112.of (hqs true), ad_set hR hI (by omega)]) ?_
                refine TF_end GivesTo.g ?_
                refine TF_y rfl rfl (Y_assign rfl) ?_
                refine TF_nil ?_
                refine thenS_normal ?_
                refine T_region ?_
                refine TL_y rfl rfl (Y_move rfl) ?_
                refine TL_y rfl rfl (Y_move rfl) ?_
                refine TL_y rfl rfl (Y_move rfl) ?_
                refine TL_y rfl rfl (Y_add rfl rfl (by omega)) ?_
                refine TL_y rfl rfl (Y_eq rfl rfl) ?_
                refine TL_name 119 (v' := .bool true) rfl (congrArg Value.bool (decide_eq_true rfl)) ?_
                refine TL_y rfl rfl (Y_move rfl) ?_
                refine TL_grun rfl rfl ?_
                refine TL_y rfl rfl (Y_move rfl) ?_
                refine TL_grun rfl rfl ?_
                refine TL_y rfl rfl (Y_move rfl) ?_
                refine TL_grun rfl rfl ?_
                refine TL_y rfl rfl (Y_eq rfl rfl) ?_
                refine TL_name 123 (v' := .bool true) rfl (congrArg Value.bool (decide_eq_true rfl)) ?_
                refine TL_y rfl rfl (Y_pick_t rfl rfl) ?_
                refine TL_y rfl rfl (Y_assign rfl) ?_
                refine TL_nil ?_
                refine T_ret ?_
                exact RetG_1 (.inl rfl) rfl (ResV.tmp rfl) GivesTo.g (⟨rfl, rfl⟩)
              · refine RD_leaf (cells b12 (eventC (adE s name sku qty true) (X, cx)) 29 :: []) [0, 0, 27, 0, 9, 31, 0, 127, 0, 511, 1023] [] [(1, true), (3, true), (6, true), (8, true), (0, false), (4, false), (2, false), (5, false), (7, false), (9, false), (10, true)] (by decide +kernel) GivesTo.g ?_
                refine TF_y rfl rfl (Y_move rfl) ?_
                refine TF_y rfl rfl (Y_load_agg rfl rfl) ?_
                refine TF_y rfl rfl (Y_move rfl) ?_
                refine TF_y rfl rfl (Y_move rfl) ?_
                refine TF_anchor rfl ?_
                refine TL_build_slice rfl rfl rfl rfl rfl rfl ?_
                intro b105
                refine TL_osl (k := 0) eventR [] (Knows.const fun M => rfl) rfl (by simp) ?_
                refine TL_name 105 (v' := .slice (some ⟨b105, 0, none⟩) ([] : List EventD).length 0) rfl rfl ?_
                refine TF_end GivesTo.g ?_
                refine TF_anchor rfl ?_
                refine TL_build_slice rfl rfl rfl rfl rfl rfl ?_
                intro b109
                refine TL_osl (k := 1) eventR [adE s name sku qty true] (cells_one' (ex_rep (X, cx) (sep_sl slk) (hok true))) rfl (by decide) ?_
                refine TL_freeze_osl ?_
                refine TL_name 109 (v' := .slice (some ⟨b109, 0, none⟩) [adE s name sku qty true].length 1) rfl rfl ?_
                refine TF_end GivesTo.g ?_
                refine TF_anchor rfl ?_
                refine TL_append rfl rfl rfl rfl rfl slk (by simp only [List.length_nil]; omega) ?_
                intro A107 c107
                simp only [List.nil_append]
                refine TF_end GivesTo.g ?_
                refine TF_anchor rfl ?_
                refine TL_append rfl rfl rfl rfl rfl slk (by simp only [List.length_cons, List.length_nil]; omega) ?_
                intro A110 c110
                refine TL_freeze_osl ?_
                refine TF_end GivesTo.g ?_
                refine TF_anchor rfl ?_
                refine TL_call rfl rfl (lines_spec name slk (by simp only [List.length_append, List.length_cons, List.length_nil]; omega) (hqs true)) ?_
                rintro _ _ ⟨A112, c112, xs112, rfl, rfl, hx112, hl112⟩
                refine TF_end GivesTo.g ?_
                refine TF_anchor rfl ?_
                refine TL_call rfl rfl (of11_spec sku sln) ?_
                rintro _ _ ⟨rfl, rfl⟩
                refine TL_name 114 (v' := .int .i64 qty) rfl (by rw [hx112.of (hqs true), ad_set hR hI (by omega)]) ?_
                refine TF_end GivesTo.g ?_
                refine TF_y rfl rfl (Y_assign rfl) ?_
                refine TF_nil ?_
                refine thenS_normal ?_
                refine T_region ?_
                refine TL_y rfl rfl (Y_move rfl) ?_
                refine TL_y rfl rfl (Y_move rfl) ?_
                refine TL_y rfl rfl (Y_move rfl) ?_
                refine TL_y rfl rfl (Y_add rfl rfl (by omega)) ?_
                refine TL_y rfl rfl (Y_eq rfl rfl) ?_
                refine TL_name 119 (v' := .bool true) rfl (congrArg Value.bool (decide_eq_true rfl)) ?_
                refine TL_y rfl rfl (Y_move rfl) ?_
                refine TL_grun rfl rfl ?_
                refine TL_y rfl rfl (Y_move rfl) ?_
                refine TL_grun rfl rfl ?_
                refine TL_y rfl rfl (Y_move rfl) ?_
                refine TL_grun rfl rfl ?_
                refine TL_y rfl rfl (Y_eq rfl rfl) ?_
                refine TL_name 123 (v' := .bool true) rfl (congrArg Value.bool (decide_eq_true rfl)) ?_
                refine TL_y rfl rfl (Y_pick_t rfl rfl) ?_
                refine TL_y rfl rfl (Y_assign rfl) ?_
                refine TL_nil ?_
                refine T_ret ?_
                exact RetG_1 (.inl rfl) rfl (ResV.tmp rfl) GivesTo.g (⟨rfl, rfl⟩)
            · refine RD_leaf (cells b12 (eventC (adE s name sku qty true) (X, cx)) 29 :: []) [24, 0, 27, 0, 8, 31, 0, 127, 0, 511, 1023] [] [(1, true), (3, true), (6, true), (8, true), (4, false), (0, false), (2, false), (5, false), (7, false), (9, false), (10, true)] (by decide +kernel) GivesTo.g ?_
              refine TF_y rfl rfl (Y_move rfl) ?_
              refine TF_y rfl rfl (Y_load_agg rfl rfl) ?_
              refine TF_y rfl rfl (Y_move rfl) ?_
              refine TF_y rfl rfl (Y_move rfl) ?_
              refine TF_anchor rfl ?_
              refine TL_build_slice rfl rfl rfl rfl rfl rfl ?_
              intro b109
              refine TL_osl (k := 1) eventR [adE s name sku qty true] (cells_one' (ex_rep (X, cx) (sep_sl slk) (hok true))) rfl (by decide) ?_
              refine TL_freeze_osl ?_
              refine TL_name 109 (v' := .slice (some ⟨b109, 0, none⟩) [adE s name sku qty true].length 1) rfl rfl ?_
              refine TF_end GivesTo.g ?_
              refine TF_anchor rfl ?_
              refine TL_build_slice rfl rfl rfl rfl rfl rfl ?_
              intro b105
              refine TL_osl (k := 0) eventR [] (Knows.const fun M => rfl) rfl (by simp) ?_
              refine TL_name 105 (v' := .slice (some ⟨b105, 0, none⟩) ([] : List EventD).length 0) rfl rfl ?_
              refine TF_end GivesTo.g ?_
              refine TF_anchor rfl ?_
              refine TL_append rfl rfl rfl rfl rfl slk (by simp only [List.length_nil]; omega) ?_
              intro A107 c107
              simp only [List.nil_append]
              refine TF_end GivesTo.g ?_
              refine TF_anchor rfl ?_
              refine TL_append rfl rfl rfl rfl rfl slk (by simp only [List.length_cons, List.length_nil]; omega) ?_
              intro A110 c110
              refine TL_freeze_osl ?_
              refine TF_end GivesTo.g ?_
              refine TF_anchor rfl ?_
              refine TL_call rfl rfl (lines_spec name slk (by simp only [List.length_append, List.length_cons, List.length_nil]; omega) (hqs true)) ?_
              rintro _ _ ⟨A112, c112, xs112, rfl, rfl, hx112, hl112⟩
              refine TF_end GivesTo.g ?_
              refine TF_anchor rfl ?_
              refine TL_call rfl rfl (of11_spec sku sln) ?_
              rintro _ _ ⟨rfl, rfl⟩
              refine TL_name 114 (v' := .int .i64 qty) rfl (by rw [hx112.of (hqs true), ad_set hR hI (by omega)]) ?_
              refine TF_end GivesTo.g ?_
              refine TF_y rfl rfl (Y_assign rfl) ?_
              refine TF_nil ?_
              refine thenS_normal ?_
              refine T_region ?_
              refine TL_y rfl rfl (Y_move rfl) ?_
              refine TL_y rfl rfl (Y_move rfl) ?_
              refine TL_y rfl rfl (Y_move rfl) ?_
              refine TL_y rfl rfl (Y_add rfl rfl (by omega)) ?_
              refine TL_y rfl rfl (Y_eq rfl rfl) ?_
              refine TL_name 119 (v' := .bool true) rfl (congrArg Value.bool (decide_eq_true rfl)) ?_
              refine TL_y rfl rfl (Y_move rfl) ?_
              refine TL_grun rfl rfl ?_
              refine TL_y rfl rfl (Y_move rfl) ?_
              refine TL_grun rfl rfl ?_
              refine TL_y rfl rfl (Y_move rfl) ?_
              refine TL_grun rfl rfl ?_
              refine TL_y rfl rfl (Y_eq rfl rfl) ?_
              refine TL_name 123 (v' := .bool true) rfl (congrArg Value.bool (decide_eq_true rfl)) ?_
              refine TL_y rfl rfl (Y_pick_t rfl rfl) ?_
              refine TL_y rfl rfl (Y_assign rfl) ?_
              refine TL_nil ?_
              refine T_ret ?_
              exact RetG_1 (.inl rfl) rfl (ResV.tmp rfl) GivesTo.g (⟨rfl, rfl⟩)
        · refine RD_leaf (cells b12 (eventC (adE s name sku qty false) (X, cx)) 29 :: []) [24, 0, 27, 0, 8, 31, 0, 127, 0, 511, 1023] [] [(1, true), (3, true), (6, true), (8, true), (4, false), (0, false), (2, false), (5, false), (7, false), (9, false), (10, true)] (by decide +kernel) GivesTo.g ?_
          refine TF_y rfl rfl (Y_move rfl) ?_
          refine TF_y rfl rfl (Y_load_agg rfl rfl) ?_
          refine TF_y rfl rfl (Y_move rfl) ?_
          refine TF_y rfl rfl (Y_move rfl) ?_
          refine TF_anchor rfl ?_
          refine TL_build_slice rfl rfl rfl rfl rfl rfl ?_
          intro b98
          refine TL_osl (k := 1) eventR [adE s name sku qty false] (cells_one' (ex_rep (X, cx) (sep_sl slk) (hok false))) rfl (by decide) ?_
          refine TL_freeze_osl ?_
          refine TL_name 98 (v' := .slice (some ⟨b98, 0, none⟩) [adE s name sku qty false].length 1) rfl rfl ?_
          refine TF_end GivesTo.g ?_
          refine TF_anchor rfl ?_
          refine TL_build_slice rfl rfl rfl rfl rfl rfl ?_
          intro b94
          refine TL_osl (k := 0) eventR [] (Knows.const fun M => rfl) rfl (by simp) ?_
          refine TL_name 94 (v' := .slice (some ⟨b94, 0, none⟩) ([] : List EventD).length 0) rfl rfl ?_
          refine TF_end GivesTo.g ?_
          refine TF_anchor rfl ?_
          refine TL_append rfl rfl rfl rfl rfl slk (by simp only [List.length_nil]; omega) ?_
          intro A96 c96
          simp only [List.nil_append]
          refine TF_end GivesTo.g ?_
          refine TF_anchor rfl ?_
          refine TL_append rfl rfl rfl rfl rfl slk (by simp only [List.length_cons, List.length_nil]; omega) ?_
          intro A99 c99
          refine TL_freeze_osl ?_
          refine TF_end GivesTo.g ?_
          refine TF_anchor rfl ?_
          refine TL_call rfl rfl (lines_spec name slk (by simp only [List.length_append, List.length_cons, List.length_nil]; omega) (hqs false)) ?_
          rintro _ _ ⟨A101, c101, xs101, rfl, rfl, hx101, hl101⟩
          refine TF_end GivesTo.g ?_
          refine TF_anchor rfl ?_
          refine TL_call rfl rfl (of11_spec sku sln) ?_
          rintro _ _ ⟨rfl, rfl⟩
          refine TL_name 103 (v' := .int .i64 (lineF l name sku + qty)) rfl (by rw [hx101.of (hqs false), ad_more hR hI (by omega)]) ?_
          refine TF_end GivesTo.g ?_
          refine TF_y rfl rfl (Y_assign rfl) ?_
          refine TF_nil ?_
          refine thenS_normal ?_
          refine T_region ?_
          refine TL_y rfl rfl (Y_field_addr rfl) ?_
          refine TL_store rfl rfl rfl rfl rfl rfl ?_
          refine TL_nil ?_
          refine T_rd [0, 0, 3, 0, 8, 31, 0, 127, 0, 511, 1023] (by kernel_rfl) (by decide +kernel) ?_
          refine RD_pair 0 4 (by decide) ?_ ?_
          · refine RD_pair 2 4 (by decide) ?_ ?_
            · refine RD_leaf (cells b12 (eventC (adE s name sku qty true) (X, cx)) 29 :: []) [0, 0, 3, 0, 15, 31, 0, 127, 0, 511, 1023] [] [(1, true), (3, true), (6, true), (8, true), (0, false), (2, false), (4, false), (5, false), (7, false), (9, false), (10, true)] (by decide +kernel) GivesTo.g ?_
              refine TF_y rfl rfl (Y_move rfl) ?_
              refine TF_y rfl rfl (Y_load_agg rfl rfl) ?_
              refine TF_y rfl rfl (Y_move rfl) ?_
              refine TF_y rfl rfl (Y_move rfl) ?_
              refine TF_anchor rfl ?_
              refine TL_build_slice rfl rfl rfl rfl rfl rfl ?_
              intro b105
              refine TL_osl (k := 0) eventR [] (Knows.const fun M => rfl) rfl (by simp) ?_
              refine TL_name 105 (v' := .slice (some ⟨b105, 0, none⟩) ([] : List EventD).length 0) rfl rfl ?_
              refine TF_end GivesTo.g ?_
              refine TF_anchor rfl ?_
              refine TL_append rfl rfl rfl rfl rfl slk (by simp only [List.length_nil]; omega) ?_
              intro A107 c107
              simp only [List.nil_append]
              refine TF_end GivesTo.g ?_
              refine TF_anchor rfl ?_
              refine TL_build_slice rfl rfl rfl rfl rfl rfl ?_
              intro b109
              refine TL_osl (k := 1) eventR [adE s name sku qty true] (cells_one' (ex_rep (X, cx) (sep_sl slk) (hok true))) rfl (by decide) ?_
              refine TL_freeze_osl ?_
              refine TL_name 109 (v' := .slice (some ⟨b109, 0, none⟩) [adE s name sku qty true].length 1) rfl rfl ?_
              refine TF_end GivesTo.g ?_
              refine TF_anchor rfl ?_
              refine TL_append rfl rfl rfl rfl rfl slk (by simp only [List.length_cons, List.length_nil]; omega) ?_
              intro A110 c110
              refine TL_freeze_osl ?_
              refine TF_end GivesTo.g ?_
              refine TF_anchor rfl ?_
              refine TL_call rfl rfl (lines_spec name slk (by simp only [List.length_append, List.length_cons, List.length_nil]; omega) (hqs true)) ?_
              rintro _ _ ⟨A112, c112, xs112, rfl, rfl, hx112, hl112⟩
              refine TF_end GivesTo.g ?_
              refine TF_anchor rfl ?_
              refine TL_call rfl rfl (of11_spec sku sln) ?_
              rintro _ _ ⟨rfl, rfl⟩
              refine TL_name 114 (v' := .int .i64 qty) rfl (by rw [hx112.of (hqs true), ad_set hR hI (by omega)]) ?_
              refine TF_end GivesTo.g ?_
              refine TF_y rfl rfl (Y_assign rfl) ?_
              refine TF_nil ?_
              refine thenS_normal ?_
              refine T_region ?_
              refine TL_y rfl rfl (Y_move rfl) ?_
              refine TL_y rfl rfl (Y_move rfl) ?_
              refine TL_y rfl rfl (Y_move rfl) ?_
              refine TL_y rfl rfl (Y_add rfl rfl (by omega)) ?_
              refine TL_y rfl rfl (Y_eq rfl rfl) ?_
              refine TL_name 119 (v' := .bool true) rfl (congrArg Value.bool (decide_eq_true rfl)) ?_
              refine TL_y rfl rfl (Y_move rfl) ?_
              refine TL_grun rfl rfl ?_
              refine TL_y rfl rfl (Y_move rfl) ?_
              refine TL_grun rfl rfl ?_
              refine TL_y rfl rfl (Y_move rfl) ?_
              refine TL_grun rfl rfl ?_
              refine TL_y rfl rfl (Y_eq rfl rfl) ?_
              refine TL_name 123 (v' := .bool true) rfl (congrArg Value.bool (decide_eq_true rfl)) ?_
              refine TL_y rfl rfl (Y_pick_t rfl rfl) ?_
              refine TL_y rfl rfl (Y_assign rfl) ?_
              refine TL_nil ?_
              refine T_ret ?_
              exact RetG_1 (.inl rfl) rfl (ResV.tmp rfl) GivesTo.g (⟨rfl, rfl⟩)
            · refine RD_leaf (cells b12 (eventC (adE s name sku qty true) (X, cx)) 29 :: []) [0, 0, 27, 0, 9, 31, 0, 127, 0, 511, 1023] [] [(1, true), (3, true), (6, true), (8, true), (0, false), (4, false), (2, false), (5, false), (7, false), (9, false), (10, true)] (by decide +kernel) GivesTo.g ?_
              refine TF_y rfl rfl (Y_move rfl) ?_
              refine TF_y rfl rfl (Y_load_agg rfl rfl) ?_
              refine TF_y rfl rfl (Y_move rfl) ?_
              refine TF_y rfl rfl (Y_move rfl) ?_
              refine TF_anchor rfl ?_
              refine TL_build_slice rfl rfl rfl rfl rfl rfl ?_
              intro b105
              refine TL_osl (k := 0) eventR [] (Knows.const fun M => rfl) rfl (by simp) ?_
              refine TL_name 105 (v' := .slice (some ⟨b105, 0, none⟩) ([] : List EventD).length 0) rfl rfl ?_
              refine TF_end GivesTo.g ?_
              refine TF_anchor rfl ?_
              refine TL_build_slice rfl rfl rfl rfl rfl rfl ?_
              intro b109
              refine TL_osl (k := 1) eventR [adE s name sku qty true] (cells_one' (ex_rep (X, cx) (sep_sl slk) (hok true))) rfl (by decide) ?_
              refine TL_freeze_osl ?_
              refine TL_name 109 (v' := .slice (some ⟨b109, 0, none⟩) [adE s name sku qty true].length 1) rfl rfl ?_
              refine TF_end GivesTo.g ?_
              refine TF_anchor rfl ?_
              refine TL_append rfl rfl rfl rfl rfl slk (by simp only [List.length_nil]; omega) ?_
              intro A107 c107
              simp only [List.nil_append]
              refine TF_end GivesTo.g ?_
              refine TF_anchor rfl ?_
              refine TL_append rfl rfl rfl rfl rfl slk (by simp only [List.length_cons, List.length_nil]; omega) ?_
              intro A110 c110
              refine TL_freeze_osl ?_
              refine TF_end GivesTo.g ?_
              refine TF_anchor rfl ?_
              refine TL_call rfl rfl (lines_spec name slk (by simp only [List.length_append, List.length_cons, List.length_nil]; omega) (hqs true)) ?_
              rintro _ _ ⟨A112, c112, xs112, rfl, rfl, hx112, hl112⟩
              refine TF_end GivesTo.g ?_
              refine TF_anchor rfl ?_
              refine TL_call rfl rfl (of11_spec sku sln) ?_
              rintro _ _ ⟨rfl, rfl⟩
              refine TL_name 114 (v' := .int .i64 qty) rfl (by rw [hx112.of (hqs true), ad_set hR hI (by omega)]) ?_
              refine TF_end GivesTo.g ?_
              refine TF_y rfl rfl (Y_assign rfl) ?_
              refine TF_nil ?_
              refine thenS_normal ?_
              refine T_region ?_
              refine TL_y rfl rfl (Y_move rfl) ?_
              refine TL_y rfl rfl (Y_move rfl) ?_
              refine TL_y rfl rfl (Y_move rfl) ?_
              refine TL_y rfl rfl (Y_add rfl rfl (by omega)) ?_
              refine TL_y rfl rfl (Y_eq rfl rfl) ?_
              refine TL_name 119 (v' := .bool true) rfl (congrArg Value.bool (decide_eq_true rfl)) ?_
              refine TL_y rfl rfl (Y_move rfl) ?_
              refine TL_grun rfl rfl ?_
              refine TL_y rfl rfl (Y_move rfl) ?_
              refine TL_grun rfl rfl ?_
              refine TL_y rfl rfl (Y_move rfl) ?_
              refine TL_grun rfl rfl ?_
              refine TL_y rfl rfl (Y_eq rfl rfl) ?_
              refine TL_name 123 (v' := .bool true) rfl (congrArg Value.bool (decide_eq_true rfl)) ?_
              refine TL_y rfl rfl (Y_pick_t rfl rfl) ?_
              refine TL_y rfl rfl (Y_assign rfl) ?_
              refine TL_nil ?_
              refine T_ret ?_
              exact RetG_1 (.inl rfl) rfl (ResV.tmp rfl) GivesTo.g (⟨rfl, rfl⟩)
          · refine RD_leaf (cells b12 (eventC (adE s name sku qty true) (X, cx)) 29 :: []) [24, 0, 27, 0, 8, 31, 0, 127, 0, 511, 1023] [] [(1, true), (3, true), (6, true), (8, true), (4, false), (0, false), (2, false), (5, false), (7, false), (9, false), (10, true)] (by decide +kernel) GivesTo.g ?_
            refine TF_y rfl rfl (Y_move rfl) ?_
            refine TF_y rfl rfl (Y_load_agg rfl rfl) ?_
            refine TF_y rfl rfl (Y_move rfl) ?_
            refine TF_y rfl rfl (Y_move rfl) ?_
            refine TF_anchor rfl ?_
            refine TL_build_slice rfl rfl rfl rfl rfl rfl ?_
            intro b109
            refine TL_osl (k := 1) eventR [adE s name sku qty true] (cells_one' (ex_rep (X, cx) (sep_sl slk) (hok true))) rfl (by decide) ?_
            refine TL_freeze_osl ?_
            refine TL_name 109 (v' := .slice (some ⟨b109, 0, none⟩) [adE s name sku qty true].length 1) rfl rfl ?_
            refine TF_end GivesTo.g ?_
            refine TF_anchor rfl ?_
            refine TL_build_slice rfl rfl rfl rfl rfl rfl ?_
            intro b105
            refine TL_osl (k := 0) eventR [] (Knows.const fun M => rfl) rfl (by simp) ?_
            refine TL_name 105 (v' := .slice (some ⟨b105, 0, none⟩) ([] : List EventD).length 0) rfl rfl ?_
            refine TF_end GivesTo.g ?_
            refine TF_anchor rfl ?_
            refine TL_append rfl rfl rfl rfl rfl slk (by simp only [List.length_nil]; omega) ?_
            intro A107 c107
            simp only [List.nil_append]
            refine TF_end GivesTo.g ?_
            refine TF_anchor rfl ?_
            refine TL_append rfl rfl rfl rfl rfl slk (by simp only [List.length_cons, List.length_nil]; omega) ?_
            intro A110 c110
            refine TL_freeze_osl ?_
            refine TF_end GivesTo.g ?_
            refine TF_anchor rfl ?_
            refine TL_call rfl rfl (lines_spec name slk (by simp only [List.length_append, List.length_cons, List.length_nil]; omega) (hqs true)) ?_
            rintro _ _ ⟨A112, c112, xs112, rfl, rfl, hx112, hl112⟩
            refine TF_end GivesTo.g ?_
            refine TF_anchor rfl ?_
            refine TL_call rfl rfl (of11_spec sku sln) ?_
            rintro _ _ ⟨rfl, rfl⟩
            refine TL_name 114 (v' := .int .i64 qty) rfl (by rw [hx112.of (hqs true), ad_set hR hI (by omega)]) ?_
            refine TF_end GivesTo.g ?_
            refine TF_y rfl rfl (Y_assign rfl) ?_
            refine TF_nil ?_
            refine thenS_normal ?_
            refine T_region ?_
            refine TL_y rfl rfl (Y_move rfl) ?_
            refine TL_y rfl rfl (Y_move rfl) ?_
            refine TL_y rfl rfl (Y_move rfl) ?_
            refine TL_y rfl rfl (Y_add rfl rfl (by omega)) ?_
            refine TL_y rfl rfl (Y_eq rfl rfl) ?_
            refine TL_name 119 (v' := .bool true) rfl (congrArg Value.bool (decide_eq_true rfl)) ?_
            refine TL_y rfl rfl (Y_move rfl) ?_
            refine TL_grun rfl rfl ?_
            refine TL_y rfl rfl (Y_move rfl) ?_
            refine TL_grun rfl rfl ?_
            refine TL_y rfl rfl (Y_move rfl) ?_
            refine TL_grun rfl rfl ?_
            refine TL_y rfl rfl (Y_eq rfl rfl) ?_
            refine TL_name 123 (v' := .bool true) rfl (congrArg Value.bool (decide_eq_true rfl)) ?_
            refine TL_y rfl rfl (Y_pick_t rfl rfl) ?_
            refine TL_y rfl rfl (Y_assign rfl) ?_
            refine TL_nil ?_
            refine T_ret ?_
            exact RetG_1 (.inl rfl) rfl (ResV.tmp rfl) GivesTo.g (⟨rfl, rfl⟩)
  · refine T_region ?_
    refine TL_y rfl rfl (Y_move rfl) ?_
    refine TL_call rfl rfl (right11_spec slk) ?_
    rintro _ _ ⟨⟨r, rfl, hr⟩, rfl⟩
    obtain rfl : r = false := by cases r; rfl; exact absurd (hr.1 rfl) hR
    refine TL_y rfl rfl (Y_not rfl) ?_
    refine TL_name 20 (v' := .bool true) rfl (rfl) ?_
    refine TL_y rfl rfl (Y_move rfl) ?_
    refine TL_gskip rfl rfl rfl rfl ?_
    refine TL_gskip rfl rfl rfl rfl ?_
    refine TL_y rfl rfl (Y_pick_t rfl rfl) ?_
    refine TL_y rfl rfl (Y_move rfl) ?_
    refine TL_gskip rfl rfl rfl rfl ?_
    refine TL_gskip rfl rfl rfl rfl ?_
    refine TL_y rfl rfl (Y_pick_t rfl rfl) ?_
    refine TL_nil ?_
    refine T_cond_true rfl ?_
    refine T_region ?_
    refine TL_y rfl rfl (Y_assign rfl) ?_
    refine TL_nil ?_
    refine T_ret ?_
    refine thenS_ret ?_
    exact RetG_1 (.inl rfl) rfl (ResV.tmp rfl) GivesTo.g (⟨rfl, rfl⟩)
end Go.SL
set_option linter.unusedVariables false
namespace Go.SL
open Go Go.Proofs
theorem cells_i : Try.prog.cellsOf 3 = 1 := by kernel_rfl
theorem cells_b : Try.prog.cellsOf 4 = 1 := by kernel_rfl
theorem cells_s : Try.prog.cellsOf 9 = 1 := by kernel_rfl
theorem cells_li : Try.prog.cellsOf 27 = 1 := by kernel_rfl
theorem bytes_i : Try.prog.bytesOf 3 = 8 := by kernel_rfl
theorem sl_to {α : Type} {R : Rep α} {A : Option Addr} {c : Nat} {xs : List α} {M : Mem} (k : sliceAt M R A c xs) : Sep [sl R A c xs] M Mem.emp := ⟨Mem.emp, Mem.emp, Mem.emp_disj _, Mem.le_refl _, Mem.le_refl _, k, trivial⟩
theorem reads_ints : Reads Try.prog 27 (sliceR (intR .i64)) (fun xs => xs.length * 8 ≤ 140737488351232) (fun xs => xs.length + 1) := fun H enc W held fuel cs d ps h hw => by
  obtain ⟨xs, h1, h2, h3⟩ := reads_slice Try.underlying27 (R := intR .i64) (by kernel_rfl) (by decide) (by rw [bytes_i]; decide) (reads_int Try.underlying3) H enc W held fuel cs d ps h hw
  rw [bytes_i] at h2
  refine ⟨xs, h1, h2.1, fun B => Nat.le_trans ?_ (h3 B)⟩
  have q : xs.length ≤ (xs.map fun _ : Int => 1).sum := sum_ge (μ := fun _ : Int => 1) (fun _ => Nat.le_refl _) xs
  exact Nat.succ_le_succ q
def μSeal (x : OrderD) : Nat := x.token.size + x.cart.size + x.cut.length + 5
def μEntry (e : EntryD) : Nat := μSeal e.order + 2
end Go.SL
set_option linter.unusedVariables false
namespace Go.SL
open Go Go.Proofs
def pairR : Rep (Int × Int) := ⟨2, fun _ a cs => cs = [.int .i64 a.1, .int .i64 a.2] ∧ intIn .i64 a.1 ∧ intIn .i64 a.2, fun _ h => h, fun h => by rw [h.1]; rfl, fun h v hv => by rw [h.1] at hv; simp at hv; rcases hv with rfl | rfl <;> rfl⟩
theorem cells_dot : Try.prog.cellsOf 26 = 2 := by kernel_rfl
set_option maxRecDepth 100000 in
theorem reads_dot : Reads Try.prog 26 pairR (fun _ => True) (fun _ => 1) := fun H enc W held fuel cs d ps h hw => by
  obtain ⟨ds, n, rfl, hl, _, hf⟩ := reads_fields Try.underlying26 h hw
  rw [cells_dot] at hl
  match cs, hl with
  | [u, v], _ =>
  obtain ⟨d0, p0, _, h0, w0⟩ := hf 0 _ rfl
  obtain ⟨d1, p1, _, h1, w1⟩ := hf 1 _ rfl
  obtain ⟨x, ⟨e0, i0⟩, _⟩ := reads_int Try.underlying3 H enc W held n _ d0 p0 h0 w0
  obtain ⟨y, ⟨e1, i1⟩, _⟩ := reads_int Try.underlying3 H enc W held n _ d1 p1 h1 w1
  simp [cells_i] at e0 e1
  subst e0; subst e1
  exact ⟨(x, y), ⟨rfl, i0, i1⟩, trivial, fun B => B.one _⟩
def μEvent (e : EventD) : Nat := e.deps.length + e.cart.size + e.sku.size + 8
def μVoted (v : VotedD) : Nat := μEntry v.en + 3
def μMsg (m : MsgD) : Nat := μEntry m.en + (m.voted.map μVoted).sum + m.seen.length + (m.events.map μEvent).sum + 10
theorem cells_event : Try.prog.cellsOf 29 = 8 := by kernel_rfl
set_option maxRecDepth 100000 in
theorem reads_event : Reads Try.prog 29 eventR (fun _ => True) μEvent := fun H enc W held fuel cs d ps h hw => by
  obtain ⟨ds, n, rfl, hl, hdl, hf⟩ := reads_fields Try.underlying29 h hw
  rw [cells_event] at hl
  match cs, hl with
  | [u0, u1, u2, u3, u4, u5, u6, u7], _ =>
  obtain ⟨d0, p0, g0, h0, w0⟩ := hf 0 _ rfl
  obtain ⟨d1, p1, g1, h1, w1⟩ := hf 1 _ rfl
  obtain ⟨d2, p2, g2, h2, w2⟩ := hf 2 _ rfl
  obtain ⟨d3, p3, g3, h3, w3⟩ := hf 3 _ rfl
  obtain ⟨d4, p4, g4, h4, w4⟩ := hf 4 _ rfl
  obtain ⟨d5, p5, g5, h5, w5⟩ := hf 5 _ rfl
  obtain ⟨d6, p6, g6, h6, w6⟩ := hf 6 _ rfl
  obtain ⟨x0, ⟨e0, i0, j0⟩, _, m0⟩ := reads_dot H enc W held n _ d0 p0 h0 w0
  obtain ⟨x1, ⟨A1, c1, e1, i1⟩, k1, m1⟩ := reads_ints H enc W held n _ d1 p1 h1 w1
  obtain ⟨x2, ⟨e2, i2⟩, _, m2⟩ := reads_str Try.underlying9 H enc W held n _ d2 p2 h2 w2
  obtain ⟨x3, ⟨e3, i3⟩, _, m3⟩ := reads_int Try.underlying3 H enc W held n _ d3 p3 h3 w3
  obtain ⟨x4, ⟨e4, i4⟩, _, m4⟩ := reads_str Try.underlying9 H enc W held n _ d4 p4 h4 w4
  obtain ⟨x5, ⟨e5, i5⟩, _, m5⟩ := reads_int Try.underlying3 H enc W held n _ d5 p5 h5 w5
  obtain ⟨x6, e6, _, m6⟩ := reads_bool Try.underlying4 H enc W held n _ d6 p6 h6 w6
  simp [cells_dot] at e0
  obtain ⟨rfl, rfl⟩ := e0
  simp [cells_li] at e1
  subst e1
  simp [cells_s] at e2
  subst e2
  simp [cells_i] at e3
  subst e3
  simp [cells_s] at e4
  subst e4
  simp [cells_i] at e5
  subst e5
  simp [cells_b, boolR] at e6
  subst e6
  refine ⟨⟨x0, x1, x2, x3, x4, x5, x6⟩, ⟨(A1, c1), rfl, sl_to i1, i0, j0, by show x1.length ≤ _; omega, i2, i3, i4, i5⟩, trivial, fun B => ?_⟩
  refine Nat.le_trans ?_ (B.agg ds)
  match ds, hdl with
  | [a0, a1, a2, a3, a4, a5, a6], _ =>
  simp at g0 g1 g2 g3 g4 g5 g6
  subst g0
  subst g1
  subst g2
  subst g3
  subst g4
  subst g5
  subst g6
  have q0' : 1 ≤ B.f a0 := m0 B
  have q1' : x1.length + 1 ≤ B.f a1 := m1 B
  have q2' : x2.size + 1 ≤ B.f a2 := m2 B
  have q3' : 1 ≤ B.f a3 := m3 B
  have q4' : x4.size + 1 ≤ B.f a4 := m4 B
  have q5' : 1 ≤ B.f a5 := m5 B
  have q6' : 1 ≤ B.f a6 := m6 B
  simp only [List.map_cons, List.map_nil, List.sum_cons, List.sum_nil]
  show x1.length + x2.size + x4.size + 8 ≤ _
  omega
def msgR : Rep MsgD := exR 15 msgC (fun m p => [sl (intR .i64) p.cut.1 p.cut.2 m.en.order.cut, sl votedR p.voted.1 p.voted.2 m.voted, sl (intR .i64) p.seen.1 p.seen.2 m.seen, sl eventR p.events.1 p.events.2 m.events]) MsgOk (fun _ _ => rfl) (fun _ _ => rfl)
end Go.SL
set_option linter.unusedVariables false
namespace Go.Proofs.Ytajdgepnmbonaaa
open Go.SL
theorem up_one {H : Type} (d : DataW H) : 1 ≤ Rows.uptoBulk d := by
  cases d with
  | lit l => cases l <;> simp [Rows.uptoBulk]
  | nil => simp [Rows.uptoBulk]
  | ptr d => simp [Rows.uptoBulk]
  | slice elems spare => simp [Rows.uptoBulk]
  | agg parts => simp [Rows.uptoBulk]
  | iface t d => simp [Rows.uptoBulk]
  | map entries => simp [Rows.uptoBulk]
  | held h => simp [Rows.uptoBulk]
theorem up_all {H : Type} : ∀ l : List (DataW H), Rows.uptoBulkAll l = (l.map Rows.uptoBulk).sum
  | [] => by simp [Rows.uptoBulkAll]
  | d :: l => by simp [Rows.uptoBulkAll, up_all l]
def upB {H : Type} : Bulk H := ⟨Rows.uptoBulk, up_one, fun b => by simp [Rows.uptoBulk], fun e s => by simp only [Rows.uptoBulk, up_all]; omega, fun ps => by simp only [Rows.uptoBulk, up_all]; omega, fun d => by simp only [Rows.uptoBulk]; omega⟩
theorem up_bound {H : Type} {l : List (DataW H)} (hk : Rows.uptoSmall H l = true) : (l.map upB.f).sum ≤ 1048576 := by
  have := of_decide_eq_true hk
  rwa [up_all] at this
end Go.Proofs.Ytajdgepnmbonaaa
