/- Dots: the law on what a vector has of a set. -/
import Derived.Test.YtooadkecmchpaaaDtQ
set_option linter.unusedVariables false
set_option linter.unusedSimpArgs false
namespace Go.SL
open Go Go.Proofs
theorem isCount_spec (L : List HP) (n : Int) : Fn Try.prog 76 #[.int .i64 n] L (fun v L' => v = .bool (decide (0 ≤ n ∧ n ≤ 2147483647)) ∧ L' = L) := by
  refine Fn_enter Try.func76 rfl rfl rfl rfl ?_
  refine T_region ?_
  refine TL_y rfl rfl (Y_assign rfl) ?_
  refine TL_nil ?_
  refine T_region ?_
  refine TL_y rfl rfl (Y_move rfl) ?_
  refine TL_y rfl rfl (Y_ge rfl rfl) ?_
  refine TL_both 4 8 (0 ≤ n ∧ n ≤ 2147483647) ?_ ?_
  · refine TL_y rfl rfl (Y_move rfl) ?_
    refine TL_splitd 5 rfl (fun h5 => ?_) (fun h5 => ?_)
    · refine TL_grun rfl rfl ?_
      refine TL_y rfl rfl (Y_move rfl) ?_
      refine TL_grun rfl rfl ?_
      refine TL_y rfl rfl (Y_le rfl rfl) ?_
      refine TL_y rfl rfl (Y_pick_t rfl rfl) ?_
      refine TL_chain_end rfl ?_ (by repeat (first | exact sub_refl | refine sub_ext rfl ?_)) GivesTo.g
      exact congrArg Value.bool (decide_eq_decide.2 (by omega))
    · refine TL_gskip rfl rfl rfl rfl ?_
      refine TL_gskip rfl rfl rfl rfl ?_
      refine TL_y rfl rfl (Y_pick_f rfl rfl) ?_
      refine TL_chain_end rfl ?_ (by repeat (first | exact sub_refl | refine sub_ext rfl ?_)) GivesTo.g
      exact congrArg Value.bool (decide_eq_false (by omega)).symm
  refine TL_y rfl rfl (Y_assign rfl) ?_
  refine TL_nil ?_
  refine T_ret ?_
  exact RetG_1 (.inl rfl) rfl (ResV.tmp rfl) GivesTo.g (⟨rfl, rfl⟩)
theorem may1_spec (L : List HP) (n : Int) : Fn Try.prog 75 #[.int .i64 n] L (fun v L' => v = .bool (decide (¬ (0 ≤ n ∧ n ≤ 2147483647))) ∧ L' = L) := by
  refine Fn_enter Try.func75 rfl rfl rfl rfl ?_
  refine T_region ?_
  refine TL_y rfl rfl (Y_assign rfl) ?_
  refine TL_nil ?_
  refine T_region ?_
  refine TL_y rfl rfl (Y_move rfl) ?_
  refine TL_call rfl rfl (isCount_spec _ n) ?_
  rintro _ L1 ⟨rfl, hL⟩
  have hL := hL.symm
  subst hL
  refine TL_y rfl rfl (Y_not_d rfl) ?_
  refine TL_y rfl rfl (Y_assign rfl) ?_
  refine TL_nil ?_
  refine T_ret ?_
  exact RetG_1 (.inl rfl) rfl (ResV.tmp rfl) GivesTo.g (⟨rfl, rfl⟩)
theorem indexFn_spec {L : List HP} {A : Option Addr} {c : Nat} {xs : List Int} {f : FuncId} [IsCall Try.prog f] {W : Int → Prop} [DecidablePred W] (hw : ∀ n L, Fn Try.prog f #[.int .i64 n] L (fun v L' => v = .bool (decide (W n)) ∧ L' = L)) (hk : SlN L (intR .i64) A c xs) : Fn Try.prog 109 #[.slice A xs.length c, .func (.func f) #[] #[]] L (fun v L' => (∃ i : Int, v = .int .i64 i ∧ (0 ≤ i ↔ ∃ x ∈ xs, W x)) ∧ L' = L) := by
  refine Fn_enter Try.func109 rfl rfl rfl rfl ?_
  refine hk.lens fun hl => ?_
  simp only [maxEl] at hl
  refine T_region ?_
  refine TL_y rfl rfl (Y_assign rfl) ?_
  refine TL_nil ?_
  refine T_seq ?_
  refine T_region ?_
  refine TL_y rfl rfl (Y_move rfl) ?_
  refine TL_y rfl rfl (Y_len rfl) ?_
  refine TL_y rfl rfl (Y_move rfl) ?_
  refine TL_nil ?_
  refine T_block ?_
  refine T_loopK (σ := Nat) [0, 1, 7] (fun i => i ≤ xs.length ∧ ∀ x ∈ xs.take i, ¬ W x) (fun i kv => (8, .int .i64 (i : Int)) :: kv) (fun i => L) (fun i => xs.length - i) (0) rfl (⟨Nat.zero_le _, by simp⟩) (GivesTo.g) (sub_cons rfl (sub_cons rfl (sub_cons rfl (sub_cons rfl (sub_nil))))) ?_
  intro i hi
  refine T_region ?_
  refine TL_y rfl rfl (Y_lt rfl rfl) ?_
  refine TL_nil ?_
  refine T_seq ?_
  refine T_if rfl (fun h9 => ?_) (fun h9 => ?_)
  · refine T_skip ?_
    refine thenS_normal ?_
    refine T_seq ?_
    refine T_block ?_
    refine T_region ?_
    refine TL_y rfl rfl (Y_move rfl) ?_
    refine TL_y rfl rfl (Y_assign rfl) ?_
    refine TL_nil ?_
    refine T_region ?_
    refine TL_y rfl rfl (Y_move rfl) ?_
    refine TL_y rfl rfl (Y_move rfl) ?_
    refine TL_y rfl rfl (Y_move rfl) ?_
    obtain ⟨x, hx⟩ : ∃ x, xs[i]? = some x := ⟨_, List.getElem?_eq_getElem (by omega)⟩
    refine TL_index_n rfl rfl rfl (rfl) (hk) (hx) ?_
    intro bn14 on14 hA14 hk14
    have hu14 := hx
    refine TL_y rfl rfl (Y_load_n rfl hk14 hu14 rfl) ?_
    refine TL_call_fn rfl rfl rfl ((show Fn _ _ #[.int .i64 x] _ _ from hw x _)) ?_
    rintro _ _ ⟨rfl, rfl⟩
    refine TL_nil ?_
    refine T_if rfl (fun h16 => ?_) (fun h16 => ?_)
    · refine T_region ?_
      refine TL_y rfl rfl (Y_move rfl) ?_
      refine TL_y rfl rfl (Y_assign rfl) ?_
      refine TL_nil ?_
      refine T_ret ?_
      refine inB_ret ?_
      refine thenS_ret ?_
      refine thenS_ret ?_
      refine inB_ret ?_
      refine thenS_ret ?_
      exact RetG_1 (.inl rfl) rfl (ResV.tmp rfl) GivesTo.g (⟨⟨(i : Int), rfl, ⟨fun _ => ⟨x, List.mem_of_getElem? hx, h16⟩, fun _ => by omega⟩⟩, rfl⟩)
    · refine T_skip ?_
      refine inB_normal ?_
      refine thenS_normal ?_
      refine T_region_last ?_
      refine TL_y rfl rfl (Y_add rfl rfl (by omega)) ?_
      refine TL_name 18 (v' := .int .i64 ((i + 1 : Nat) : Int)) rfl (rfl) ?_
      refine TL_y rfl rfl (Y_move rfl) ?_
      refine TL_nil ?_
      refine thenS_normal ?_
      exact ⟨i + 1, ⟨by omega, by rw [takeAt hx]; intro q hq; rcases List.mem_append.1 hq with h | h; exact hi.2 q h; (simp at h; subst h; exact h16)⟩, by omega, holds_to (sub_cons rfl (sub_cons rfl (sub_cons rfl (sub_cons rfl (sub_nil))))) GivesTo.g⟩
  · refine T_exit ?_
    refine thenS_exit ?_
    refine thenS_exit ?_
    refine inB_hit ?_
    refine thenS_normal ?_
    refine T_region ?_
    refine TL_y rfl rfl (Y_assign rfl) ?_
    refine TL_nil ?_
    refine T_ret ?_
    exact RetG_1 (.inl rfl) rfl (ResV.tmp rfl) GivesTo.g (⟨⟨-1, rfl, ⟨fun h => by omega, fun ⟨x, hx, hwx⟩ => by have := hi.2; rw [List.take_of_length_le (by omega)] at this; exact absurd hwx (this x hx)⟩⟩, rfl⟩)
theorem contFn_spec {L : List HP} {A : Option Addr} {c : Nat} {xs : List Int} {f : FuncId} [IsCall Try.prog f] {W : Int → Prop} [DecidablePred W] (hw : ∀ n L, Fn Try.prog f #[.int .i64 n] L (fun v L' => v = .bool (decide (W n)) ∧ L' = L)) (hk : SlN L (intR .i64) A c xs) : Fn Try.prog 74 #[.slice A xs.length c, .func (.func f) #[] #[]] L (fun v L' => v = .bool (decide (∃ x ∈ xs, W x)) ∧ L' = L) := by
  refine Fn_enter Try.func74 rfl rfl rfl rfl ?_
  refine T_region ?_
  refine TL_y rfl rfl (Y_assign rfl) ?_
  refine TL_nil ?_
  refine T_region ?_
  refine TL_y rfl rfl (Y_move rfl) ?_
  refine TL_y rfl rfl (Y_move rfl) ?_
  refine TL_call rfl rfl (indexFn_spec hw hk) ?_
  rintro _ L1 ⟨⟨i, rfl, hi⟩, hL⟩
  have hL := hL.symm
  subst hL
  refine TL_y rfl rfl (Y_ge rfl rfl) ?_
  refine TL_y rfl rfl (Y_assign rfl) ?_
  refine TL_nil ?_
  refine T_ret ?_
  exact RetG_1 (.inl rfl) rfl (ResV.tmp rfl) GivesTo.g (⟨congrArg Value.bool (decide_eq_decide.2 hi), rfl⟩)
def mayV (v : List Int) : Prop := v.length ≤ 7 ∧ ∀ n ∈ v, 0 ≤ n ∧ n ≤ 2147483647
instance (v : List Int) : Decidable (mayV v) := by unfold mayV; exact inferInstance
theorem vvMay_spec {L : List HP} {A : Option Addr} {c : Nat} {xs : List Int} (hk : SlN L (intR .i64) A c xs) : Fn Try.prog 34 #[.slice A xs.length c] L (fun v L' => v = .bool (decide (mayV xs)) ∧ L' = L) := by
  refine Fn_enter Try.func34 rfl rfl rfl rfl ?_
  refine T_region ?_
  refine TL_y rfl rfl (Y_assign rfl) ?_
  refine TL_nil ?_
  refine T_region ?_
  refine TL_y rfl rfl (Y_move rfl) ?_
  refine TL_y rfl rfl (Y_len rfl) ?_
  refine TL_y rfl rfl (Y_le rfl rfl) ?_
  refine TL_y rfl rfl (Y_move rfl) ?_
  refine TL_splitd 6 rfl (fun h6 => ?_) (fun h6 => ?_)
  · refine TL_grun rfl rfl ?_
    refine TL_y rfl rfl (Y_move rfl) ?_
    refine TL_grun rfl rfl ?_
    refine TL_call rfl rfl (contFn_spec (W := fun n ↦ ¬ (0 ≤ n ∧ n ≤ 2147483647)) (fun n L ↦ may1_spec L n) hk) ?_
    rintro _ L1 ⟨rfl, hL⟩
    have hL := hL.symm
    subst hL
    refine TL_grun rfl rfl ?_
    refine TL_y rfl rfl (Y_not_d rfl) ?_
    refine TL_y rfl rfl (Y_pick_t rfl rfl) ?_
    refine TL_y rfl rfl (Y_assign rfl) ?_
    refine TL_nil ?_
    refine T_ret ?_
    exact RetG_1 (.inl rfl) rfl (ResV.tmp rfl) GivesTo.g (⟨congrArg Value.bool (decide_eq_decide.2 ⟨fun h => ⟨by omega, fun n hn => Classical.byContradiction fun hc => h ⟨n, hn, hc⟩⟩, fun h ⟨n, hn, hc⟩ => hc (h.2 n hn)⟩), rfl⟩)
  · refine TL_gskip rfl rfl rfl rfl ?_
    refine TL_gskip rfl rfl rfl rfl ?_
    refine TL_gskip rfl rfl rfl rfl ?_
    refine TL_y rfl rfl (Y_pick_f rfl rfl) ?_
    refine TL_y rfl rfl (Y_assign rfl) ?_
    refine TL_nil ?_
    refine T_ret ?_
    exact RetG_1 (.inl rfl) rfl (ResV.tmp rfl) GivesTo.g (⟨congrArg Value.bool (decide_eq_false fun h => by have := h.1; omega).symm, rfl⟩)
def sumV (v : List Int) : Nat := (v.map Int.toNat).sum
theorem sumV_snoc (v : List Int) (x : Int) : sumV (v ++ [x]) = sumV v + x.toNat := by simp [sumV]
theorem sumV_le : ∀ {v : List Int}, (∀ n ∈ v, 0 ≤ n ∧ n ≤ 2147483647) → sumV v ≤ v.length * 2147483647
  | [], _ => by simp [sumV]
  | x :: r, h => by
    have h1 := sumV_le (v := r) fun n hn => h n (List.mem_cons_of_mem _ hn)
    have h2 := h x List.mem_cons_self
    have : sumV (x :: r) = x.toNat + sumV r := by simp [sumV]
    rw [this, List.length_cons, Nat.add_mul]; omega
theorem vvCount_spec {L : List HP} {A : Option Addr} {c : Nat} {xs : List Int} (hk : SlN L (intR .i64) A c xs) (hm : mayV xs) : Fn Try.prog 36 #[.slice A xs.length c] L (fun v L' => v = .int .i64 (sumV xs : Int) ∧ L' = L) := by
  have hm1 := hm.1
  refine Fn_enter Try.func36 rfl rfl rfl rfl ?_
  refine T_region ?_
  refine TL_y rfl rfl (Y_assign rfl) ?_
  refine TL_nil ?_
  refine T_region ?_
  refine TL_y rfl rfl (Y_assign rfl) ?_
  refine TL_nil ?_
  refine T_seq ?_
  refine T_region ?_
  refine TL_y rfl rfl (Y_move rfl) ?_
  refine TL_y rfl rfl (Y_len rfl) ?_
  refine TL_y rfl rfl (Y_move rfl) ?_
  refine TL_nil ?_
  refine T_block ?_
  refine T_loopK (σ := Nat) [6, 7] (fun i => i ≤ xs.length) (fun i kv => (8, .int .i64 (i : Int)) :: (3, .int .i64 (sumV (xs.take i) : Int)) :: kv) (fun i => L) (fun i => xs.length - i) (0) rfl (Nat.zero_le _) (GivesTo.g) (sub_cons rfl (sub_cons rfl (sub_cons rfl (sub_cons rfl (sub_nil))))) ?_
  intro i hi
  refine T_region ?_
  refine TL_y rfl rfl (Y_lt rfl rfl) ?_
  refine TL_nil ?_
  refine T_seq ?_
  refine T_if rfl (fun h9 => ?_) (fun h9 => ?_)
  · refine T_skip ?_
    refine thenS_normal ?_
    refine T_seq ?_
    refine T_block ?_
    refine T_region ?_
    obtain ⟨x, hx⟩ : ∃ x, xs[i]? = some x := ⟨_, List.getElem?_eq_getElem (by omega)⟩
    have hx2 := hm.2 x (List.mem_of_getElem? hx)
    have hs := sumV_le (v := xs.take i) (fun n hn => hm.2 n (List.mem_of_mem_take hn))
    have hti : (xs.take i).length = i := by rw [List.length_take]; omega
    refine TL_index_n rfl rfl rfl (rfl) (hk) (hx) ?_
    intro bn10 on10 hA10 hk10
    have hu10 := hx
    refine TL_y rfl rfl (Y_load_n rfl hk10 hu10 rfl) ?_
    refine TL_y rfl rfl (Y_assign rfl) ?_
    refine TL_nil ?_
    refine T_region_last ?_
    refine TL_y rfl rfl (Y_move rfl) ?_
    refine TL_y rfl rfl (Y_move rfl) ?_
    refine TL_y rfl rfl (Y_max rfl rfl) ?_
    refine TL_y rfl rfl (Y_add rfl rfl (by rw [hti] at hs; omega)) ?_
    refine TL_name 15 (v' := .int .i64 (sumV (xs.take (i + 1)) : Int)) rfl (by rw [takeAt hx, sumV_snoc]; congr 1; omega) ?_
    refine TL_y rfl rfl (Y_assign rfl) ?_
    refine TL_nil ?_
    refine inB_normal ?_
    refine thenS_normal ?_
    refine T_region_last ?_
    refine TL_y rfl rfl (Y_add rfl rfl (by omega)) ?_
    refine TL_name 16 (v' := .int .i64 ((i + 1 : Nat) : Int)) rfl (rfl) ?_
    refine TL_y rfl rfl (Y_move rfl) ?_
    refine TL_nil ?_
    refine thenS_normal ?_
    exact ⟨i + 1, (by omega), by omega, holds_to (sub_cons rfl (sub_cons rfl (sub_cons rfl (sub_cons rfl (sub_nil))))) GivesTo.g⟩
  · refine T_exit ?_
    refine thenS_exit ?_
    refine thenS_exit ?_
    refine inB_hit ?_
    refine thenS_normal ?_
    refine T_region ?_
    refine TL_y rfl rfl (Y_move rfl) ?_
    refine TL_y rfl rfl (Y_assign rfl) ?_
    refine TL_nil ?_
    refine T_ret ?_
    exact RetG_1 (.inl rfl) rfl (ResV.tmp rfl) GivesTo.g (⟨by rw [show xs.take i = xs from List.take_of_length_le (by omega)], rfl⟩)
theorem betL_count (v : List Int) : (betL [] v).length = sumV v := by
  unfold betL sumV
  rw [List.length_flatMap]
  congr 1
  apply List.ext_getElem?
  intro i
  by_cases hi : i < v.length
  · simp only [List.getElem?_map, List.getElem?_range hi, Option.map_some, List.getElem?_eq_getElem hi, betO_len, Option.getD_some]
    congr 1
    rw [show ofV [] (i : Int) = 0 by unfold ofV; split <;> simp]
    omega
  · rw [List.getElem?_eq_none (by simp; omega), List.getElem?_eq_none (by simp; omega)]
theorem sorted_ext {a b : List DotD} (p1 : a.Pairwise (fun x y => lessD x y = true)) (p2 : b.Pairwise (fun x y => lessD x y = true)) (h : ∀ d, d ∈ a ↔ d ∈ b) : a = b :=
  ((List.perm_ext_iff_of_nodup (lessD_nodup p1) (lessD_nodup p2)).2 h).eq_of_pairwise (fun x y _ _ h1 h2 => by rw [lessD_iff] at h1 h2; omega) p1 p2
theorem mem_betN {v : List Int} {d : DotD} : d ∈ betL [] v ↔ 0 ≤ d.1 ∧ hasV v d := by
  rw [mem_betL]
  have h0 : ∀ o : Nat, ofV [] (o : Int) = 0 := fun o => by unfold ofV; split <;> simp
  constructor
  · rintro ⟨o, h1, h2, h3, h4⟩
    rw [h0] at h3
    refine ⟨by omega, by omega, ?_⟩
    rw [h2, ofV_at (List.getElem?_eq_getElem h1)]
    rw [List.getElem?_eq_getElem h1] at h4
    exact h4
  · rintro ⟨h1, h2, h3⟩
    obtain ⟨o, ho⟩ : ∃ o : Nat, d.1 = (o : Int) := ⟨d.1.toNat, by omega⟩
    have hlt : o < v.length := Nat.lt_of_not_le fun h => by rw [ofV_out (.inr (by omega))] at h3; omega
    refine ⟨o, hlt, ho, by rw [h0]; omega, ?_⟩
    rw [ho, ofV_at (List.getElem?_eq_getElem hlt)] at h3
    rw [List.getElem?_eq_getElem hlt]; exact h3
theorem split_count {l : List (DotD × tSTR)} (hi : DI l) (v : List Int) : (l.filter fun q => decide (hasV v q.1)).length + ((betL (vecL l) v).filter fun d => !decide (hasD l d)).length = sumV v := by
  have e1 : (betL [] v).filter (fun d => decide (hasD l d)) = (l.filter fun q => decide (hasV v q.1)).map (·.1) := by
    refine sorted_ext ((betL_sorted _ _).filter _) (List.pairwise_map.2 (hi.inc.filter _)) fun d => ?_
    rw [List.mem_filter, mem_betN]
    simp only [decide_eq_true_eq, List.mem_map, List.mem_filter]
    constructor
    · rintro ⟨⟨_, h1⟩, h2⟩
      obtain ⟨q, hq, rfl⟩ := hasD_iff.1 h2
      exact ⟨q, ⟨hq, h1⟩, rfl⟩
    · rintro ⟨q, ⟨hq, h1⟩, rfl⟩
      exact ⟨⟨(hi.may q hq).1, h1⟩, hasD_iff.2 ⟨q, hq, rfl⟩⟩
  have e2 : (betL [] v).filter (fun d => !decide (hasD l d)) = (betL (vecL l) v).filter fun d => !decide (hasD l d) := by
    refine sorted_ext ((betL_sorted _ _).filter _) ((betL_sorted _ _).filter _) fun d => ?_
    rw [List.mem_filter, List.mem_filter, mem_betL, mem_betL]
    have h0 : ∀ o : Nat, ofV [] (o : Int) = 0 := fun o => by unfold ofV; split <;> simp
    simp only [Bool.not_eq_true', decide_eq_false_iff_not, h0]
    constructor
    · rintro ⟨⟨o, h1, h2, h3, h4⟩, h5⟩
      refine ⟨⟨o, h1, h2, ?_, h4⟩, h5⟩
      by_cases h7 : o < 7
      · rw [ofV_vecL h7]
        refine Classical.byContradiction fun hc => h5 ?_
        have := hi.vec_has (o := (o : Int)) (j := d.2) (by omega) (by omega)
        rw [← h2] at this; exact this
      · rw [ofV_out (.inr (by rw [vecL_len]; omega))]; omega
    · rintro ⟨⟨o, h1, h2, h3, h4⟩, h5⟩
      exact ⟨⟨o, h1, h2, by omega, h4⟩, h5⟩
  have h1 := congrArg List.length e1
  rw [List.length_map] at h1
  rw [← h1, ← e2, ← betL_count]
  generalize betL [] v = z
  induction z with
  | nil => rfl
  | cons d r ih =>
    rw [List.filter_cons, List.filter_cons, List.length_cons]
    by_cases h : hasD l d <;> simp [h] <;> omega
structure KnSt where
  k : Nat
  n : Nat
  le : n ≤ k
def knStep {β : Type} (M : β → Prop) : LS KnSt → β → LS KnSt → Prop := fun s x s' => s'.1.k = s.1.k + 1 ∧ (M x → s'.2 = none ∧ s'.1.n = s.1.n + 1)
theorem kn_runs {β : Type} {M : β → Prop} {s s' : LS KnSt} {ys : List β} (h : Runs (knStep M) (fun s => !s.2.isNone) s ys s') : s.2 = none → (∀ x ∈ ys, M x) → s'.2 = none ∧ s'.1.n = s.1.n + ys.length := by
  induction h with
  | nil s => intro h0 _; exact ⟨h0, by simp⟩
  | @halt s1 s2 x xs a b => intro h0 hm; rw [(a.2 (hm x List.mem_cons_self)).1] at b; simp at b
  | @go s1 s2 s3 x xs a b c ih =>
    intro h0 hm
    have h1 := a.2 (hm x List.mem_cons_self)
    have h2 := ih h1.1 fun y hy => hm y (List.mem_cons_of_mem _ hy)
    exact ⟨h2.1, by rw [h2.2, h1.2, List.length_cons]; omega⟩
def outStep (v : List Int) : LS KnSt → DotD × tSTR → LS KnSt → Prop := fun s x s' => s'.2 = none ∧ s'.1.k = s.1.k + 1 ∧ s'.1.n = s.1.n + (if hasV v x.1 then 0 else 1)
theorem out_runs {v : List Int} {s s' : LS KnSt} {ys : List (DotD × tSTR)} (h : Runs (outStep v) (fun s => !s.2.isNone) s ys s') (h0 : s.2 = none) : s'.2 = none ∧ s'.1.n = s.1.n + ((ys.map (·.1)).filter fun d => !decide (hasV v d)).length := by
  induction h with
  | nil s => exact ⟨h0, by simp⟩
  | halt a b => rw [a.1] at b; simp at b
  | @go s1 s2 s3 x xs a b c ih =>
    have h1 := ih a.1
    refine ⟨h1.1, ?_⟩
    rw [h1.2, a.2.2, List.map_cons, List.filter_cons]
    by_cases hv : hasV v x.1 <;> simp [hv] <;> omega
end Go.SL
