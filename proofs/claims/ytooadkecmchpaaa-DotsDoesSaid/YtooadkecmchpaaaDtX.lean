/- Dots: what hangs on the dots alone; dots and vectors compared. -/
import Derived.Test.YtooadkecmchpaaaDtN
import Derived.Test.YtooadkecmchpaaaDtP
import Derived.Test.YtooadkecmchpaaaTurn
set_option linter.unusedVariables false
set_option linter.unusedSimpArgs false
namespace Go.SL
open Go Go.Proofs
section
variable {α β : Type} {l : List (DotD × α)} {l' : List (DotD × β)}
theorem vec_congr (h : DI l) (h' : DI l') (hd : ∀ d, hasD l d ↔ hasD l' d) (o : Int) : vecO l o = vecO l' o :=
  h.vec_eq (fun j h1 h2 => (hd _).2 (h'.vec_has h1 h2)) (fun hh => h'.vec_gap o ((hd _).1 hh))
theorem vecL_congr (h : DI l) (h' : DI l') (hd : ∀ d, hasD l d ↔ hasD l' d) : vecL l = vecL l' := by
  unfold vecL
  exact List.map_congr_left fun o _ => by rw [vec_congr h h' hd]
theorem dots_congr (h : DI l) (h' : DI l') (hd : ∀ d, hasD l d ↔ hasD l' d) : l.map (·.1) = l'.map (·.1) := by
  have p1 : (l.map (·.1)).Pairwise (fun a b => lessD a b = true) := List.pairwise_map.2 h.inc
  have p2 : (l'.map (·.1)).Pairwise (fun a b => lessD a b = true) := List.pairwise_map.2 h'.inc
  have nd : ∀ {c : List DotD}, c.Pairwise (fun a b => lessD a b = true) → c.Nodup := fun hc => hc.imp fun hh e => by rw [e, lessD_iff] at hh; omega
  refine ((List.perm_ext_iff_of_nodup (nd p1) (nd p2)).2 fun d => ?_).eq_of_pairwise (fun x y _ _ h1 h2 => by rw [lessD_iff] at h1 h2; omega) p1 p2
  have e1 : d ∈ l.map (·.1) ↔ hasD l d := by rw [hasD_iff]; simp only [List.mem_map]
  have e2 : d ∈ l'.map (·.1) ↔ hasD l' d := by rw [hasD_iff]; simp only [List.mem_map]
  rw [e1, e2, hd]
theorem extra_congr (h : DI l) (h' : DI l') (hd : ∀ d, hasD l d ↔ hasD l' d) : extraD l = extraD l' := by
  unfold extraD; rw [dots_congr h h' hd, vecL_congr h h' hd]
theorem len_congr (h : DI l) (h' : DI l') (hd : ∀ d, hasD l d ↔ hasD l' d) : l.length = l'.length := by
  have := congrArg List.length (dots_congr h h' hd); simpa using this
theorem add_has (h : DI l) {d : DotD} {x : α} (hl : l.length < 65536) (j : DotD) : hasD (addS l d x).1 j ↔ hasD l j ∨ (j = d ∧ mayD d) := by
  unfold addS
  split
  · rename_i hm; simp [hm]
  · rename_i hm
    have hm := Classical.not_not.1 hm
    split
    · rename_i hd
      constructor
      · exact .inl
      · rintro (h | ⟨rfl, _⟩)
        · exact h
        · exact hd
    · split
      · omega
      · rw [putD_has]
        constructor
        · rintro (rfl | h)
          · exact .inr ⟨rfl, hm⟩
          · exact .inl h
        · rintro (h | ⟨rfl, _⟩)
          · exact .inr h
          · exact .inl rfl
theorem add_len {d : DotD} {x : α} : (addS l d x).1.length ≤ l.length + 1 := by
  unfold addS
  split
  · simp
  · split
    · simp
    · split
      · simp
      · rw [putD_len]; simp
theorem plain_len : ∀ v : List Int, (plainV v).length ≤ v.length
  | [] => Nat.le_refl _
  | x :: r => by
    have := plain_len r
    unfold plainV
    split <;> simp
    omega
theorem count_split (l : List (DotD × α)) (V : List Int) : (l.filter fun q => decide (hasV V q.1)).length + ((l.map (·.1)).filter fun d => !decide (hasV V d)).length = l.length := by
  induction l with
  | nil => rfl
  | cons p r ih =>
    rw [List.map_cons, List.filter_cons, List.filter_cons]
    by_cases h : hasV V p.1 <;> simp [h] <;> omega
end
theorem same08D_spec {L : List HP} {A B : Option Addr} {c d : Nat} {xs ys : List Int} (hk : SlN L (intR .i64) A c xs) (hk2 : SlN L (intR .i64) B d ys) : Fn Try.prog 19 #[.slice A xs.length c, .slice B ys.length d] L (fun v L' => v = .bool (decide (xs = ys)) ∧ L' = L) := by
  refine Fn_enter Try.func19 rfl rfl rfl rfl ?_
  refine hk.lens fun hl => ?_
  simp only [maxEl] at hl
  refine T_region ?_
  refine TL_y rfl rfl (Y_assign rfl) ?_
  refine TL_nil ?_
  refine T_seq ?_
  refine T_region ?_
  refine TL_y rfl rfl (Y_move rfl) ?_
  refine TL_y rfl rfl (Y_len rfl) ?_
  refine TL_y rfl rfl (Y_move rfl) ?_
  refine TL_y rfl rfl (Y_len rfl) ?_
  refine TL_y rfl rfl (Y_ne rfl rfl) ?_
  refine TL_nil ?_
  refine T_if rfl (fun h10 => ?_) (fun h10 => ?_)
  · refine T_region ?_
    refine TL_y rfl rfl (Y_assign rfl) ?_
    refine TL_nil ?_
    refine T_ret ?_
    refine thenS_ret ?_
    exact RetG_1 (.inl rfl) rfl (ResV.tmp rfl) GivesTo.g (⟨by rw [decide_eq_false]; rintro rfl; exact h10 rfl, rfl⟩)
  · refine T_skip ?_
    refine thenS_normal ?_
    refine T_seq ?_
    refine T_region ?_
    refine TL_y rfl rfl (Y_assign rfl) ?_
    refine TL_nil ?_
    refine T_block ?_
    refine T_loopK (σ := Nat) [0, 1] (fun i => i ≤ xs.length ∧ xs.take i = ys.take i) (fun i kv => (5, .int .i64 (i : Int)) :: kv) (fun i => L) (fun i => xs.length - i) (0) rfl (⟨Nat.zero_le _, rfl⟩) (GivesTo.g) (sub_cons rfl (sub_cons rfl (sub_cons rfl (sub_nil)))) ?_
    intro i hi
    refine T_seq ?_
    refine T_region ?_
    refine TL_y rfl rfl (Y_move rfl) ?_
    refine TL_y rfl rfl (Y_move rfl) ?_
    refine TL_y rfl rfl (Y_len rfl) ?_
    refine TL_y rfl rfl (Y_lt rfl rfl) ?_
    refine TL_nil ?_
    refine T_if rfl (fun h14 => ?_) (fun h14 => ?_)
    · refine T_skip ?_
      refine thenS_normal ?_
      refine T_seq ?_
      refine T_block ?_
      have hx := List.getElem?_eq_getElem (show i < xs.length by omega)
      have hy := List.getElem?_eq_getElem (show i < ys.length by omega)
      refine T_addr_n hk hx fun b1 o1 e1 => ?_
      refine T_addr_n hk2 hy fun b2 o2 e2 => ?_
      subst e1
      subst e2
      refine T_region_draw _ [0, 0, 3, 7, 0, 0, 48, 112, 255] [] [(0, true), (1, true), (2, true), (3, true), (4, true), (5, true), (6, true), (7, true), (8, true)] (by kernel_rfl) (by decide +kernel) (Gives.refl _) ?_
      refine TF_y rfl rfl (Y_move rfl) ?_
      refine TF_y rfl rfl (Y_move rfl) ?_
      refine TF_y rfl rfl (Y_index_n (R := intR .i64) (xs := xs) rfl rfl rfl hx) ?_
      refine TF_y rfl rfl (Y_load_n (q := 0) rfl hk hx rfl) ?_
      refine TF_y rfl rfl (Y_move rfl) ?_
      refine TF_y rfl rfl (Y_move rfl) ?_
      refine TF_y rfl rfl (Y_index_n (R := intR .i64) (xs := ys) rfl rfl rfl hy) ?_
      refine TF_y rfl rfl (Y_load_n (q := 0) rfl hk2 hy rfl) ?_
      refine TF_y rfl rfl (Y_ne rfl rfl) ?_
      refine TF_nil ?_
      refine T_if rfl (fun h25 => ?_) (fun h25 => ?_)
      · refine T_region ?_
        refine TL_y rfl rfl (Y_assign rfl) ?_
        refine TL_nil ?_
        refine T_ret ?_
        refine inB_ret ?_
        refine thenS_ret ?_
        refine thenS_ret ?_
        refine inB_ret ?_
        refine thenS_ret ?_
        exact RetG_1 (.inl rfl) rfl (ResV.tmp rfl) GivesTo.g (⟨by rw [decide_eq_false]; rintro rfl; exact h25 rfl, rfl⟩)
      · refine T_skip ?_
        refine inB_normal ?_
        refine thenS_normal ?_
        refine T_region_last ?_
        refine TL_y rfl rfl (Y_move rfl) ?_
        refine TL_y rfl rfl (Y_add rfl rfl (by omega)) ?_
        refine TL_name 16 (v' := .int .i64 ((i + 1 : Nat) : Int)) rfl (by simp) ?_
        refine TL_y rfl rfl (Y_assign rfl) ?_
        refine TL_nil ?_
        refine thenS_normal ?_
        exact ⟨i + 1, ⟨by omega, takeStep hi.2 hx hy (Classical.not_not.1 h25)⟩, by omega, holds_to (sub_cons rfl (sub_cons rfl (sub_cons rfl (sub_nil)))) GivesTo.g⟩
    · refine T_exit ?_
      refine thenS_exit ?_
      refine thenS_exit ?_
      refine inB_hit ?_
      refine thenS_normal ?_
      refine T_region ?_
      refine TL_y rfl rfl (Y_assign rfl) ?_
      refine TL_nil ?_
      refine T_ret ?_
      exact RetG_1 (.inl rfl) rfl (ResV.tmp rfl) GivesTo.g (⟨by rw [decide_eq_true (takeAll hi.2 (by omega) (by omega))], rfl⟩)
theorem dot_guard : Try.prog.eqGuardType Try.prog.depth 31 = false := by kernel_rfl
theorem dot_held : Try.prog.stoodInHeld 31 = false := by kernel_rfl
theorem dot_eq0 (dd : Nat) (w : World) (a b : DotD) : (Op.equalIn (dd + 2) 31 (dotV a) (dotV b)).run Try.prog w = .ok (decide (a = b)) w := by
  have hn : ∀ x y, (Op.equalIn (dd + 1) 3 (.int .i64 x) (.int .i64 y)).run Try.prog w = .ok (decide (x = y)) w := fun x y => EqIs.int (k := .i64) dd w
  generalize hdd : dd + 1 = d1 at hn
  have : dd + 2 = d1 + 1 := by omega
  rw [this]
  simp [Op.equalIn, Try.runUnderlying31, dot_held, part, Try.isAgg3, hn]
  by_cases h1 : a.1 = b.1 <;> by_cases h2 : a.2 = b.2 <;> simp [h1, h2, Prod.ext_iff]
section
variable {E : Env} {L : List HP} {ty : TypeId}
theorem dot_eq1 (w : World) (a b : DotD) : (Op.equal 31 (dotV a) (dotV b)).run Try.prog w = .ok (decide (a = b)) w := dot_eq0 9998 w a b
theorem Y_eq_dot {x y : Operand} {t' : TypeId} {a b : DotD} (hx : ev E x = some (dotV a)) (hy : ev E y = some (dotV b)) : Yl Try.prog E L (.binOp .eql 31 x y t') ty (.bool (decide (a = b))) := fun n D W ac w dst pos af g hv hs => by
  have h3 : ∀ xs ys : Array Value, Go.binOp .eql 31 (.agg xs) (.agg ys) = (do Pure.pure (Value.bool (← Op.equal 31 (.agg xs) (.agg ys))) : Sem Value) := fun xs ys => by simp only [Go.binOp]
  simp only [execOp, hv.ev hx, hv.ev hy, eqGuard, h3]
  simp [dot_guard, dot_eq1]
theorem Y_ne_dot {x y : Operand} {t' : TypeId} {a b : DotD} (hx : ev E x = some (dotV a)) (hy : ev E y = some (dotV b)) : Yl Try.prog E L (.binOp .neq 31 x y t') ty (.bool (decide (a ≠ b))) := fun n D W ac w dst pos af g hv hs => by
  have h3 : ∀ xs ys : Array Value, Go.binOp .neq 31 (.agg xs) (.agg ys) = (do Pure.pure (Value.bool (!(← Op.equal 31 (.agg xs) (.agg ys)))) : Sem Value) := fun xs ys => by simp only [Go.binOp]
  simp only [execOp, hv.ev hx, hv.ev hy, eqGuard, h3]
  simp [dot_guard, dot_eq1]
end
theorem sameDots_spec {L : List HP} {A B : Option Addr} {c d : Nat} {xs ys : List DotD} (hk : SlN L dotR A c xs) (hk2 : SlN L dotR B d ys) : Fn Try.prog 21 #[.slice A xs.length c, .slice B ys.length d] L (fun v L' => v = .bool (decide (xs = ys)) ∧ L' = L) := by
  refine Fn_enter Try.func21 rfl rfl rfl rfl ?_
  refine hk.lens fun hl => ?_
  simp only [maxEl] at hl
  refine T_region ?_
  refine TL_y rfl rfl (Y_assign rfl) ?_
  refine TL_nil ?_
  refine T_seq ?_
  refine T_region ?_
  refine TL_y rfl rfl (Y_move rfl) ?_
  refine TL_y rfl rfl (Y_len rfl) ?_
  refine TL_y rfl rfl (Y_move rfl) ?_
  refine TL_y rfl rfl (Y_len rfl) ?_
  refine TL_y rfl rfl (Y_ne rfl rfl) ?_
  refine TL_nil ?_
  refine T_if rfl (fun h10 => ?_) (fun h10 => ?_)
  · refine T_region ?_
    refine TL_y rfl rfl (Y_assign rfl) ?_
    refine TL_nil ?_
    refine T_ret ?_
    refine thenS_ret ?_
    exact RetG_1 (.inl rfl) rfl (ResV.tmp rfl) GivesTo.g (⟨by rw [decide_eq_false]; rintro rfl; exact h10 rfl, rfl⟩)
  · refine T_skip ?_
    refine thenS_normal ?_
    refine T_seq ?_
    refine T_region ?_
    refine TL_y rfl rfl (Y_assign rfl) ?_
    refine TL_nil ?_
    refine T_block ?_
    refine T_loopK (σ := Nat) [0, 1] (fun i => i ≤ xs.length ∧ xs.take i = ys.take i) (fun i kv => (5, .int .i64 (i : Int)) :: kv) (fun i => L) (fun i => xs.length - i) (0) rfl (⟨Nat.zero_le _, rfl⟩) (GivesTo.g) (sub_cons rfl (sub_cons rfl (sub_cons rfl (sub_nil)))) ?_
    intro i hi
    refine T_seq ?_
    refine T_region ?_
    refine TL_y rfl rfl (Y_move rfl) ?_
    refine TL_y rfl rfl (Y_move rfl) ?_
    refine TL_y rfl rfl (Y_len rfl) ?_
    refine TL_y rfl rfl (Y_lt rfl rfl) ?_
    refine TL_nil ?_
    refine T_if rfl (fun h14 => ?_) (fun h14 => ?_)
    · refine T_skip ?_
      refine thenS_normal ?_
      refine T_seq ?_
      refine T_block ?_
      obtain ⟨x, hx⟩ : ∃ x, xs[i]? = some x := ⟨_, List.getElem?_eq_getElem (by omega)⟩
      obtain ⟨y, hy⟩ : ∃ y, ys[i]? = some y := ⟨_, List.getElem?_eq_getElem (by omega)⟩
      refine T_addr_n hk hx fun b1 o1 e1 => ?_
      refine T_addr_n hk2 hy fun b2 o2 e2 => ?_
      subst e1
      subst e2
      refine T_region_draw _ [0, 0, 3, 7, 0, 0, 48, 112, 255] [] [(0, true), (1, true), (2, true), (3, true), (4, true), (5, true), (6, true), (7, true), (8, true)] (by kernel_rfl) (by decide +kernel) (Gives.refl _) ?_
      refine TF_y rfl rfl (Y_move rfl) ?_
      refine TF_y rfl rfl (Y_move rfl) ?_
      refine TF_y rfl rfl (Y_index_n (R := dotR) (xs := xs) rfl rfl rfl hx) ?_
      refine TF_y rfl rfl (Y_load_naf (q := 0) rfl hk hx rfl) ?_
      refine TF_y rfl rfl (Y_move rfl) ?_
      refine TF_y rfl rfl (Y_move rfl) ?_
      refine TF_y rfl rfl (Y_index_n (R := dotR) (xs := ys) rfl rfl rfl hy) ?_
      refine TF_y rfl rfl (Y_load_naf (q := 0) rfl hk2 hy rfl) ?_
      refine TF_y rfl rfl (Y_ne_dot (a := x) (b := y) rfl rfl) ?_
      refine TF_nil ?_
      refine T_if rfl (fun h25 => ?_) (fun h25 => ?_)
      · refine T_region ?_
        refine TL_y rfl rfl (Y_assign rfl) ?_
        refine TL_nil ?_
        refine T_ret ?_
        refine inB_ret ?_
        refine thenS_ret ?_
        refine thenS_ret ?_
        refine inB_ret ?_
        refine thenS_ret ?_
        exact RetG_1 (.inl rfl) rfl (ResV.tmp rfl) GivesTo.g (⟨by rw [decide_eq_false]; rintro rfl; rw [hx] at hy; cases hy; exact h25 rfl, rfl⟩)
      · refine T_skip ?_
        refine inB_normal ?_
        refine thenS_normal ?_
        refine T_region_last ?_
        refine TL_y rfl rfl (Y_move rfl) ?_
        refine TL_y rfl rfl (Y_add rfl rfl (by omega)) ?_
        refine TL_name 16 (v' := .int .i64 ((i + 1 : Nat) : Int)) rfl (by simp) ?_
        refine TL_y rfl rfl (Y_assign rfl) ?_
        refine TL_nil ?_
        refine thenS_normal ?_
        exact ⟨i + 1, ⟨by omega, takeStep hi.2 hx hy (Classical.not_not.1 h25)⟩, by omega, holds_to (sub_cons rfl (sub_cons rfl (sub_cons rfl (sub_nil)))) GivesTo.g⟩
    · refine T_exit ?_
      refine thenS_exit ?_
      refine thenS_exit ?_
      refine inB_hit ?_
      refine thenS_normal ?_
      refine T_region ?_
      refine TL_y rfl rfl (Y_assign rfl) ?_
      refine TL_nil ?_
      refine T_ret ?_
      exact RetG_1 (.inl rfl) rfl (ResV.tmp rfl) GivesTo.g (⟨by rw [decide_eq_true (takeAll hi.2 (by omega) (by omega))], rfl⟩)
theorem has_snoc {d : DotD} {zs : List pairD} {u : pairD} : (mayD d ∧ ∃ q ∈ zs, q.1 = d) ∨ (d = u.1 ∧ mayD u.1) ↔ mayD d ∧ ∃ q ∈ zs ++ [u], q.1 = d := by
  constructor
  · rintro (⟨h, q, hq, hd⟩ | ⟨rfl, h⟩)
    · exact ⟨h, q, List.mem_append_left _ hq, hd⟩
    · exact ⟨h, u, by simp, rfl⟩
  · rintro ⟨h, q, hq, hd⟩
    rcases List.mem_append.1 hq with hq | hq
    · exact .inl ⟨h, q, hq, hd⟩
    · simp at hq; subst hq; exact .inr ⟨hd.symm, by rw [hd]; exact h⟩
theorem count_runs {β : Type} {s s' : LS Nat} {ys : List β} (h : Runs (fun (s : LS Nat) (_ : β) (s' : LS Nat) => s'.2 = none ∧ s'.1 = s.1 + 1) (fun s => !s.2.isNone) s ys s') (h0 : s.2 = none) : s'.2 = none ∧ s'.1 = s.1 + ys.length := by
  induction h with
  | nil s => exact ⟨h0, by simp⟩
  | halt a b => rw [a.1] at b; simp at b
  | go a b c ih => have h1 := ih a.1; exact ⟨h1.1, by rw [h1.2, a.2, List.length_cons]; omega⟩
end Go.SL
