/- The walks of the laws on nil votes and on majorities that meet. -/
import Derived.Test.YtiiejjdkhekhmaaBalE
set_option linter.unusedVariables false
set_option linter.unusedSimpArgs false
namespace Go.SL
open Go Go.Proofs
theorem ballotNobody_walk {L : List HP} (n : Int) : Fn Try.prog 9 #[.int .i64 n] L (fun v L' => v = .bool true ∧ L' = L) := by
  refine Fn_enter Try.func9 rfl rfl rfl rfl ?_
  refine T_region ?_
  refine TL_y rfl rfl (Y_assign rfl) ?_
  refine TL_nil ?_
  refine T_region ?_
  refine TL_y rfl rfl (Y_assign rfl) ?_
  refine TL_nil ?_
  refine T_region ?_
  refine TL_call rfl rfl (lives15_spec _) ?_
  rintro _ _ ⟨rfl, rfl⟩
  refine TL_name 4 (v' := .bool true) rfl (rfl) ?_
  refine TL_y rfl rfl (Y_move rfl) ?_
  refine TL_grun rfl rfl ?_
  refine TL_y rfl rfl (Y_move rfl) ?_
  refine TL_grun rfl rfl ?_
  refine TL_y rfl rfl (Y_move rfl) ?_
  refine TL_grun rfl rfl ?_
  refine TL_call rfl rfl (add_nil_spec _ _) ?_
  rintro _ _ ⟨rfl, rfl⟩
  refine TL_name 8 (v' := .bool false) rfl (rfl) ?_
  refine TL_grun rfl rfl ?_
  refine TL_y rfl rfl (Y_not_f rfl) ?_
  refine TL_y rfl rfl (Y_pick_t rfl rfl) ?_
  refine TL_y rfl rfl (Y_move rfl) ?_
  refine TL_grun rfl rfl ?_
  refine TL_y rfl rfl (Y_move rfl) ?_
  refine TL_grun rfl rfl ?_
  refine TL_y rfl rfl (Y_move rfl) ?_
  refine TL_grun rfl rfl ?_
  refine TL_call rfl rfl (has_nil_spec _ _) ?_
  rintro _ _ ⟨rfl, rfl⟩
  refine TL_name 14 (v' := .bool false) rfl (rfl) ?_
  refine TL_grun rfl rfl ?_
  refine TL_y rfl rfl (Y_not_f rfl) ?_
  refine TL_y rfl rfl (Y_pick_t rfl rfl) ?_
  refine TL_y rfl rfl (Y_move rfl) ?_
  refine TL_grun rfl rfl ?_
  refine TL_y rfl rfl (Y_move rfl) ?_
  refine TL_grun rfl rfl ?_
  refine TL_call rfl rfl (count_nil_spec _) ?_
  rintro _ _ ⟨rfl, rfl⟩
  refine TL_grun rfl rfl ?_
  refine TL_y rfl rfl (Y_eq rfl rfl) ?_
  refine TL_name 20 (v' := .bool true) rfl (congrArg Value.bool (by decide)) ?_
  refine TL_y rfl rfl (Y_pick_t rfl rfl) ?_
  refine TL_y rfl rfl (Y_move rfl) ?_
  refine TL_grun rfl rfl ?_
  refine TL_y rfl rfl (Y_move rfl) ?_
  refine TL_grun rfl rfl ?_
  refine TL_call rfl rfl (enough_nil_spec _) ?_
  rintro _ _ ⟨rfl, rfl⟩
  refine TL_name 24 (v' := .bool false) rfl (rfl) ?_
  refine TL_grun rfl rfl ?_
  refine TL_y rfl rfl (Y_not_f rfl) ?_
  refine TL_y rfl rfl (Y_pick_t rfl rfl) ?_
  refine TL_y rfl rfl (Y_move rfl) ?_
  refine TL_grun rfl rfl ?_
  refine TL_y rfl rfl (Y_move rfl) ?_
  refine TL_grun rfl rfl ?_
  refine TL_call rfl rfl (all_nil_spec _) ?_
  rintro _ _ ⟨rfl, rfl⟩
  refine TL_grun rfl rfl ?_
  refine TL_y rfl rfl (Y_len rfl) ?_
  refine TL_grun rfl rfl ?_
  refine TL_y rfl rfl (Y_eq rfl rfl) ?_
  refine TL_name 31 (v' := .bool true) rfl (congrArg Value.bool (by decide)) ?_
  refine TL_y rfl rfl (Y_pick_t rfl rfl) ?_
  refine TL_y rfl rfl (Y_move rfl) ?_
  refine TL_grun rfl rfl ?_
  refine TL_y rfl rfl (Y_move rfl) ?_
  refine TL_grun rfl rfl ?_
  refine TL_call rfl rfl (fork_nil_spec _) ?_
  rintro _ _ ⟨rfl, rfl⟩
  refine TL_grun rfl rfl ?_
  refine TL_y rfl rfl (Y_equal rfl rfl (EqIs.ptr_nil)) ?_
  refine TL_name 36 (v' := .bool true) rfl (congrArg Value.bool (by simp)) ?_
  refine TL_y rfl rfl (Y_pick_t rfl rfl) ?_
  refine TL_y rfl rfl (Y_assign rfl) ?_
  refine TL_nil ?_
  refine T_ret ?_
  exact RetG_1 (.inl rfl) rfl (ResV.tmp rfl) GivesTo.g (⟨rfl, rfl⟩)
theorem newVotes_bad {n : Int} (h : ¬ (1 ≤ n ∧ n ≤ 7)) (L : List HP) : Fn Try.prog 31 #[.int .i64 n] L (fun v L' => v = .tuple #[.pointer none, .int .i64 1] ∧ L' = L) := (newVotes_spec n L).cases_ fun v L' k => by
  rcases k with ⟨_, k⟩ | ⟨k, _⟩
  · exact k
  · exact absurd k h
theorem newVotes_ok {n : Int} (h : 1 ≤ n ∧ n ≤ 7) (L : List HP) : Fn Try.prog 31 #[.int .i64 n] L (fun v L' => ∃ b, v = .tuple #[.pointer (some ⟨b, 0, none⟩), .int .i64 0] ∧ L' = votes b (List.replicate 7 false) n :: L) := (newVotes_spec n L).cases_ fun v L' k => by
  rcases k with ⟨k, _⟩ | ⟨_, k⟩
  · exact absurd h k
  · exact k
def addL (bs : List Bool) (n : Int) (l : List Int) : List Bool := l.foldl (fun bs x => addV bs n x) bs
theorem addL_len {n : Int} : ∀ {l : List Int} {bs : List Bool}, bs.length = 7 → (addL bs n l).length = 7
  | [], bs, h => h
  | x :: l, bs, h => addL_len (l := l) (addV_len h)
theorem addL_next {bs : List Bool} {n u : Int} {l : List Int} {i : Nat} (h : l[i]? = some u) : addL bs n (l.take (i + 1)) = addV (addL bs n (l.take i)) n u := by
  rw [List.take_add_one, h]
  simp [addL, List.foldl_append]
theorem count_two {α : Type} {p q s : α → Bool} (h1 : ∀ x, p x = true → s x = true) (h2 : ∀ x, q x = true → s x = true) (h3 : ∀ x, ¬ (p x = true ∧ q x = true)) : ∀ l : List α, (l.filter p).length + (l.filter q).length ≤ (l.filter s).length
  | [] => by simp
  | x :: l => by
    have ih := count_two h1 h2 h3 l
    have a1 := h1 x; have a2 := h2 x; have a3 := h3 x
    simp only [List.filter_cons]
    cases hp : p x <;> cases hq : q x <;> cases hs : s x <;> simp_all <;> omega
theorem allV_disj {bs cs : List Bool} {n : Int} (hn : 1 ≤ n ∧ n ≤ 7) (h : ∀ j : Nat, (j : Int) < n → ¬ (hasV bs n (j : Int) ∧ hasV cs n (j : Int))) : ((allV bs n).length : Int) + ((allV cs n).length : Int) ≤ n := by
  have k := count_two (p := fun i : Nat => decide (hasV bs n (i : Int))) (q := fun i : Nat => decide (hasV cs n (i : Int))) (s := fun i : Nat => decide ((i : Int) < n))
    (fun x hx => decide_eq_true (of_decide_eq_true hx).1.2) (fun x hx => decide_eq_true (of_decide_eq_true hx).1.2)
    (fun x ⟨hx, hy⟩ => h x (of_decide_eq_true hx).1.2 ⟨of_decide_eq_true hx, of_decide_eq_true hy⟩) (List.range 7)
  have e : ((List.range 7).filter fun i : Nat => decide ((i : Int) < n)).length = n.toNat := by
    have : n = 1 ∨ n = 2 ∨ n = 3 ∨ n = 4 ∨ n = 5 ∨ n = 6 ∨ n = 7 := by omega
    rcases this with rfl | rfl | rfl | rfl | rfl | rfl | rfl <;> decide
  rw [e] at k
  simp only [allV, allTo, List.length_map]
  omega
theorem meets_bad {L : List HP} {A B : Option Addr} {c d : Nat} {l m : List Int} (n : Int) (h : ¬ (1 ≤ n ∧ n ≤ 7)) (hk : SlK L (intR .i64) A c l) (hk2 : SlK L (intR .i64) B d m) : Fn Try.prog 7 #[.int .i64 n, .slice A l.length c, .slice B m.length d] L (fun v L' => v = .bool true ∧ L' = L) := by
  refine Fn_enter Try.func7 rfl rfl rfl rfl ?_
  refine T_gives hk.lay ?_
  refine T_region ?_
  refine TL_y rfl rfl (Y_assign rfl) ?_
  refine TL_nil ?_
  refine T_region ?_
  refine TL_y rfl rfl (Y_move rfl) ?_
  refine TL_call rfl rfl (newVotes_bad h _) ?_
  rintro _ _ ⟨rfl, rfl⟩
  refine TL_y rfl rfl (Y_move rfl) ?_
  refine TL_y rfl rfl (Y_extract rfl rfl) ?_
  refine TL_y rfl rfl (Y_extract rfl rfl) ?_
  refine TL_y rfl rfl (Y_assign rfl) ?_
  refine TL_y rfl rfl (Y_assign rfl) ?_
  refine TL_nil ?_
  refine T_region ?_
  refine TL_y rfl rfl (Y_move rfl) ?_
  refine TL_call rfl rfl (newVotes_bad h _) ?_
  rintro _ _ ⟨rfl, rfl⟩
  refine TL_y rfl rfl (Y_move rfl) ?_
  refine TL_y rfl rfl (Y_extract rfl rfl) ?_
  refine TL_y rfl rfl (Y_extract rfl rfl) ?_
  refine TL_y rfl rfl (Y_assign rfl) ?_
  refine TL_y rfl rfl (Y_assign rfl) ?_
  refine TL_nil ?_
  refine T_seq ?_
  refine T_region ?_
  refine TL_call rfl rfl (lives15_spec _) ?_
  rintro _ _ ⟨rfl, rfl⟩
  refine TL_name 24 (v' := .bool true) rfl (rfl) ?_
  refine TL_y rfl rfl (Y_not_t rfl) ?_
  refine TL_y rfl rfl (Y_move rfl) ?_
  refine TL_grun rfl rfl ?_
  refine TL_y rfl rfl (Y_move rfl) ?_
  refine TL_grun rfl rfl ?_
  refine TL_y rfl rfl (Y_move rfl) ?_
  refine TL_grun rfl rfl ?_
  refine TL_y rfl rfl (Y_ne rfl rfl) ?_
  refine TL_name 29 (v' := .bool false) rfl (congrArg Value.bool (by decide)) ?_
  refine TL_y rfl rfl (Y_pick_f rfl rfl) ?_
  refine TL_y rfl rfl (Y_move rfl) ?_
  refine TL_grun rfl rfl ?_
  refine TL_y rfl rfl (Y_move rfl) ?_
  refine TL_grun rfl rfl ?_
  refine TL_y rfl rfl (Y_equal rfl rfl (EqIs.ptr_nil)) ?_
  refine TL_grun rfl rfl ?_
  refine TL_y rfl rfl (Y_move rfl) ?_
  refine TL_grun rfl rfl ?_
  refine TL_y rfl rfl (Y_equal rfl rfl (EqIs.ptr_nil)) ?_
  refine TL_grun rfl rfl ?_
  refine TL_y rfl rfl (Y_unequal rfl rfl (EqIs.bool)) ?_
  refine TL_name 36 (v' := .bool false) rfl (congrArg Value.bool (by simp)) ?_
  refine TL_y rfl rfl (Y_pick_f rfl rfl) ?_
  refine TL_nil ?_
  refine T_cond_false rfl ?_
  refine T_skip ?_
  refine thenS_normal ?_
  refine T_seq ?_
  refine T_region ?_
  refine TL_y rfl rfl (Y_assign rfl) ?_
  refine TL_nil ?_
  refine T_block ?_
  refine T_loopK (σ := Unit) [0, 1, 2, 7, 9] (fun x => True) (fun x kv => (11, .int .i64 0) :: kv) (fun x => L) (fun x => 0) (()) rfl (trivial) (GivesTo.g) (sub_cons rfl (sub_cons rfl (sub_cons rfl (sub_cons rfl (sub_cons rfl (sub_cons rfl (sub_nil))))))) ?_
  intro x hx
  refine T_seq ?_
  refine T_region ?_
  refine TL_y rfl rfl (Y_move rfl) ?_
  refine TL_y rfl rfl (Y_move rfl) ?_
  refine TL_y rfl rfl (Y_len rfl) ?_
  refine TL_y rfl rfl (Y_lt rfl rfl) ?_
  refine TL_y rfl rfl (Y_move rfl) ?_
  refine TL_splitd 42 rfl (fun h42 => ?_) (fun h42 => ?_)
  · refine TL_grun rfl rfl ?_
    refine TL_y rfl rfl (Y_move rfl) ?_
    refine TL_grun rfl rfl ?_
    refine TL_y rfl rfl (Y_unequal rfl rfl (EqIs.ptr_nil)) ?_
    refine TL_name 44 (v' := .bool false) rfl (congrArg Value.bool (by simp)) ?_
    refine TL_y rfl rfl (Y_pick_t rfl rfl) ?_
    refine TL_nil ?_
    refine T_cond_false rfl ?_
    refine T_exit ?_
    refine thenS_exit ?_
    refine thenS_exit ?_
    refine inB_hit ?_
    refine thenS_normal ?_
    refine T_seq ?_
    refine T_region ?_
    refine TL_y rfl rfl (Y_assign rfl) ?_
    refine TL_nil ?_
    refine T_block ?_
    refine T_loopK (σ := Unit) [0, 2, 7, 9] (fun x => True) (fun x kv => (12, .int .i64 0) :: kv) (fun x => L) (fun x => 0) (()) rfl (trivial) (GivesTo.g) (sub_cons rfl (sub_cons rfl (sub_cons rfl (sub_cons rfl (sub_cons rfl (sub_nil)))))) ?_
    intro x hx
    refine T_seq ?_
    refine T_region ?_
    refine TL_y rfl rfl (Y_move rfl) ?_
    refine TL_y rfl rfl (Y_move rfl) ?_
    refine TL_y rfl rfl (Y_len rfl) ?_
    refine TL_y rfl rfl (Y_lt rfl rfl) ?_
    refine TL_y rfl rfl (Y_move rfl) ?_
    refine TL_splitd 58 rfl (fun h58 => ?_) (fun h58 => ?_)
    · refine TL_grun rfl rfl ?_
      refine TL_y rfl rfl (Y_move rfl) ?_
      refine TL_grun rfl rfl ?_
      refine TL_y rfl rfl (Y_unequal rfl rfl (EqIs.ptr_nil)) ?_
      refine TL_name 60 (v' := .bool false) rfl (congrArg Value.bool (by simp)) ?_
      refine TL_y rfl rfl (Y_pick_t rfl rfl) ?_
      refine TL_nil ?_
      refine T_cond_false rfl ?_
      refine T_exit ?_
      refine thenS_exit ?_
      refine thenS_exit ?_
      refine inB_hit ?_
      refine thenS_normal ?_
      refine T_seq ?_
      refine T_region ?_
      refine TL_y rfl rfl (Y_move rfl) ?_
      refine TL_y rfl rfl (Y_equal rfl rfl (EqIs.ptr_nil)) ?_
      refine TL_name 71 (v' := .bool true) rfl (congrArg Value.bool (by simp)) ?_
      refine TL_y rfl rfl (Y_move rfl) ?_
      refine TL_gskip rfl rfl rfl rfl ?_
      refine TL_gskip rfl rfl rfl rfl ?_
      refine TL_gskip rfl rfl rfl rfl ?_
      refine TL_y rfl rfl (Y_pick_t rfl rfl) ?_
      refine TL_y rfl rfl (Y_move rfl) ?_
      refine TL_gskip rfl rfl rfl rfl ?_
      refine TL_gskip rfl rfl rfl rfl ?_
      refine TL_gskip rfl rfl rfl rfl ?_
      refine TL_y rfl rfl (Y_pick_t rfl rfl) ?_
      refine TL_nil ?_
      refine T_cond_true rfl ?_
      refine T_region ?_
      refine TL_y rfl rfl (Y_assign rfl) ?_
      refine TL_nil ?_
      refine T_ret ?_
      refine thenS_ret ?_
      exact RetG_1 (.inl rfl) rfl (ResV.tmp rfl) GivesTo.g (⟨rfl, rfl⟩)
    · refine TL_gskip rfl rfl rfl rfl ?_
      refine TL_gskip rfl rfl rfl rfl ?_
      refine TL_y rfl rfl (Y_pick_f rfl rfl) ?_
      refine TL_nil ?_
      refine T_cond_false rfl ?_
      refine T_exit ?_
      refine thenS_exit ?_
      refine thenS_exit ?_
      refine inB_hit ?_
      refine thenS_normal ?_
      refine T_seq ?_
      refine T_region ?_
      refine TL_y rfl rfl (Y_move rfl) ?_
      refine TL_y rfl rfl (Y_equal rfl rfl (EqIs.ptr_nil)) ?_
      refine TL_name 71 (v' := .bool true) rfl (congrArg Value.bool (by simp)) ?_
      refine TL_y rfl rfl (Y_move rfl) ?_
      refine TL_gskip rfl rfl rfl rfl ?_
      refine TL_gskip rfl rfl rfl rfl ?_
      refine TL_gskip rfl rfl rfl rfl ?_
      refine TL_y rfl rfl (Y_pick_t rfl rfl) ?_
      refine TL_y rfl rfl (Y_move rfl) ?_
      refine TL_gskip rfl rfl rfl rfl ?_
      refine TL_gskip rfl rfl rfl rfl ?_
      refine TL_gskip rfl rfl rfl rfl ?_
      refine TL_y rfl rfl (Y_pick_t rfl rfl) ?_
      refine TL_nil ?_
      refine T_cond_true rfl ?_
      refine T_region ?_
      refine TL_y rfl rfl (Y_assign rfl) ?_
      refine TL_nil ?_
      refine T_ret ?_
      refine thenS_ret ?_
      exact RetG_1 (.inl rfl) rfl (ResV.tmp rfl) GivesTo.g (⟨rfl, rfl⟩)
  · refine TL_gskip rfl rfl rfl rfl ?_
    refine TL_gskip rfl rfl rfl rfl ?_
    refine TL_y rfl rfl (Y_pick_f rfl rfl) ?_
    refine TL_nil ?_
    refine T_cond_false rfl ?_
    refine T_exit ?_
    refine thenS_exit ?_
    refine thenS_exit ?_
    refine inB_hit ?_
    refine thenS_normal ?_
    refine T_seq ?_
    refine T_region ?_
    refine TL_y rfl rfl (Y_assign rfl) ?_
    refine TL_nil ?_
    refine T_block ?_
    refine T_loopK (σ := Unit) [0, 2, 7, 9] (fun x => True) (fun x kv => (12, .int .i64 0) :: kv) (fun x => L) (fun x => 0) (()) rfl (trivial) (GivesTo.g) (sub_cons rfl (sub_cons rfl (sub_cons rfl (sub_cons rfl (sub_cons rfl (sub_nil)))))) ?_
    intro x hx
    refine T_seq ?_
    refine T_region ?_
    refine TL_y rfl rfl (Y_move rfl) ?_
    refine TL_y rfl rfl (Y_move rfl) ?_
    refine TL_y rfl rfl (Y_len rfl) ?_
    refine TL_y rfl rfl (Y_lt rfl rfl) ?_
    refine TL_y rfl rfl (Y_move rfl) ?_
    refine TL_splitd 58 rfl (fun h58 => ?_) (fun h58 => ?_)
    · refine TL_grun rfl rfl ?_
      refine TL_y rfl rfl (Y_move rfl) ?_
      refine TL_grun rfl rfl ?_
      refine TL_y rfl rfl (Y_unequal rfl rfl (EqIs.ptr_nil)) ?_
      refine TL_name 60 (v' := .bool false) rfl (congrArg Value.bool (by simp)) ?_
      refine TL_y rfl rfl (Y_pick_t rfl rfl) ?_
      refine TL_nil ?_
      refine T_cond_false rfl ?_
      refine T_exit ?_
      refine thenS_exit ?_
      refine thenS_exit ?_
      refine inB_hit ?_
      refine thenS_normal ?_
      refine T_seq ?_
      refine T_region ?_
      refine TL_y rfl rfl (Y_move rfl) ?_
      refine TL_y rfl rfl (Y_equal rfl rfl (EqIs.ptr_nil)) ?_
      refine TL_name 71 (v' := .bool true) rfl (congrArg Value.bool (by simp)) ?_
      refine TL_y rfl rfl (Y_move rfl) ?_
      refine TL_gskip rfl rfl rfl rfl ?_
      refine TL_gskip rfl rfl rfl rfl ?_
      refine TL_gskip rfl rfl rfl rfl ?_
      refine TL_y rfl rfl (Y_pick_t rfl rfl) ?_
      refine TL_y rfl rfl (Y_move rfl) ?_
      refine TL_gskip rfl rfl rfl rfl ?_
      refine TL_gskip rfl rfl rfl rfl ?_
      refine TL_gskip rfl rfl rfl rfl ?_
      refine TL_y rfl rfl (Y_pick_t rfl rfl) ?_
      refine TL_nil ?_
      refine T_cond_true rfl ?_
      refine T_region ?_
      refine TL_y rfl rfl (Y_assign rfl) ?_
      refine TL_nil ?_
      refine T_ret ?_
      refine thenS_ret ?_
      exact RetG_1 (.inl rfl) rfl (ResV.tmp rfl) GivesTo.g (⟨rfl, rfl⟩)
    · refine TL_gskip rfl rfl rfl rfl ?_
      refine TL_gskip rfl rfl rfl rfl ?_
      refine TL_y rfl rfl (Y_pick_f rfl rfl) ?_
      refine TL_nil ?_
      refine T_cond_false rfl ?_
      refine T_exit ?_
      refine thenS_exit ?_
      refine thenS_exit ?_
      refine inB_hit ?_
      refine thenS_normal ?_
      refine T_seq ?_
      refine T_region ?_
      refine TL_y rfl rfl (Y_move rfl) ?_
      refine TL_y rfl rfl (Y_equal rfl rfl (EqIs.ptr_nil)) ?_
      refine TL_name 71 (v' := .bool true) rfl (congrArg Value.bool (by simp)) ?_
      refine TL_y rfl rfl (Y_move rfl) ?_
      refine TL_gskip rfl rfl rfl rfl ?_
      refine TL_gskip rfl rfl rfl rfl ?_
      refine TL_gskip rfl rfl rfl rfl ?_
      refine TL_y rfl rfl (Y_pick_t rfl rfl) ?_
      refine TL_y rfl rfl (Y_move rfl) ?_
      refine TL_gskip rfl rfl rfl rfl ?_
      refine TL_gskip rfl rfl rfl rfl ?_
      refine TL_gskip rfl rfl rfl rfl ?_
      refine TL_y rfl rfl (Y_pick_t rfl rfl) ?_
      refine TL_nil ?_
      refine T_cond_true rfl ?_
      refine T_region ?_
      refine TL_y rfl rfl (Y_assign rfl) ?_
      refine TL_nil ?_
      refine T_ret ?_
      refine thenS_ret ?_
      exact RetG_1 (.inl rfl) rfl (ResV.tmp rfl) GivesTo.g (⟨rfl, rfl⟩)
theorem meets_ok {L : List HP} {A B : Option Addr} {c d : Nat} {l m : List Int} (n : Int) (h : 1 ≤ n ∧ n ≤ 7) (hk : SlK L (intR .i64) A c l) (hk2 : SlK L (intR .i64) B d m) (hl : l.length ≤ 17592186044416) (hm : m.length ≤ 17592186044416) : Fn Try.prog 7 #[.int .i64 n, .slice A l.length c, .slice B m.length d] L (fun v L' => v = .bool true ∧ L' = L) := by
  refine Fn_enter Try.func7 rfl rfl rfl rfl ?_
  refine T_gives hk.lay ?_
  refine T_gives (SlK.lay hk2.tail) ?_
  refine T_region ?_
  refine TL_y rfl rfl (Y_assign rfl) ?_
  refine TL_nil ?_
  refine T_region ?_
  refine TL_y rfl rfl (Y_move rfl) ?_
  refine TL_call rfl rfl (newVotes_ok h _) ?_
  rintro _ _ ⟨b1, rfl, rfl⟩
  refine TL_y rfl rfl (Y_move rfl) ?_
  refine TL_y rfl rfl (Y_extract rfl rfl) ?_
  refine TL_y rfl rfl (Y_extract rfl rfl) ?_
  refine TL_y rfl rfl (Y_assign rfl) ?_
  refine TL_y rfl rfl (Y_assign rfl) ?_
  refine TL_nil ?_
  refine T_region ?_
  refine TL_y rfl rfl (Y_move rfl) ?_
  refine TL_call rfl rfl (newVotes_ok h _) ?_
  rintro _ _ ⟨b2, rfl, rfl⟩
  refine TL_y rfl rfl (Y_move rfl) ?_
  refine TL_y rfl rfl (Y_extract rfl rfl) ?_
  refine TL_y rfl rfl (Y_extract rfl rfl) ?_
  refine TL_y rfl rfl (Y_assign rfl) ?_
  refine TL_y rfl rfl (Y_assign rfl) ?_
  refine TL_nil ?_
  refine T_seq ?_
  refine T_region ?_
  refine TL_call rfl rfl (lives15_spec _) ?_
  rintro _ _ ⟨rfl, rfl⟩
  refine TL_name 24 (v' := .bool true) rfl (rfl) ?_
  refine TL_y rfl rfl (Y_not_t rfl) ?_
  refine TL_y rfl rfl (Y_move rfl) ?_
  refine TL_grun rfl rfl ?_
  refine TL_y rfl rfl (Y_move rfl) ?_
  refine TL_grun rfl rfl ?_
  refine TL_y rfl rfl (Y_move rfl) ?_
  refine TL_grun rfl rfl ?_
  refine TL_y rfl rfl (Y_ne rfl rfl) ?_
  refine TL_name 29 (v' := .bool false) rfl (congrArg Value.bool (by decide)) ?_
  refine TL_y rfl rfl (Y_pick_f rfl rfl) ?_
  refine TL_y rfl rfl (Y_move rfl) ?_
  refine TL_grun rfl rfl ?_
  refine TL_y rfl rfl (Y_move rfl) ?_
  refine TL_grun rfl rfl ?_
  refine TL_y rfl rfl (Y_equal rfl rfl (EqIs.ptr_nil)) ?_
  refine TL_grun rfl rfl ?_
  refine TL_y rfl rfl (Y_move rfl) ?_
  refine TL_grun rfl rfl ?_
  refine TL_y rfl rfl (Y_equal rfl rfl (EqIs.ptr_nil)) ?_
  refine TL_grun rfl rfl ?_
  refine TL_y rfl rfl (Y_unequal rfl rfl (EqIs.bool)) ?_
  refine TL_name 36 (v' := .bool false) rfl (congrArg Value.bool (by simp)) ?_
  refine TL_y rfl rfl (Y_pick_f rfl rfl) ?_
  refine TL_nil ?_
  refine T_cond_false rfl ?_
  refine T_skip ?_
  refine thenS_normal ?_
  refine T_seq ?_
  refine T_region ?_
  refine TL_y rfl rfl (Y_assign rfl) ?_
  refine TL_nil ?_
  refine T_block ?_
  refine T_loopK (σ := Nat) [0, 1, 2, 7, 9] (fun i => i ≤ l.length) (fun i kv => (11, .int .i64 (i : Int)) :: kv) (fun i => votes b1 (addL (List.replicate 7 false) n (l.take i)) n :: votes b2 (List.replicate 7 false) n :: sl (intR .i64) B d m :: sl (intR .i64) A c l :: L) (fun i => l.length - i) (0) rfl (Nat.zero_le _) (GivesTo.g (L' := votes b1 (List.replicate 7 false) n :: votes b2 (List.replicate 7 false) n :: sl (intR .i64) B d m :: sl (intR .i64) A c l :: L)) (sub_cons rfl (sub_cons rfl (sub_cons rfl (sub_cons rfl (sub_cons rfl (sub_cons rfl (sub_nil))))))) ?_
  intro i hi
  refine T_seq ?_
  refine T_region ?_
  refine TL_y rfl rfl (Y_move rfl) ?_
  refine TL_y rfl rfl (Y_move rfl) ?_
  refine TL_y rfl rfl (Y_len rfl) ?_
  refine TL_y rfl rfl (Y_lt rfl rfl) ?_
  refine TL_y rfl rfl (Y_move rfl) ?_
  refine TL_splitd 42 rfl (fun h42 => ?_) (fun h42 => ?_)
  · refine TL_grun rfl rfl ?_
    refine TL_y rfl rfl (Y_move rfl) ?_
    refine TL_grun rfl rfl ?_
    refine TL_y rfl rfl (Y_unequal rfl rfl (EqIs.ptr_nil)) ?_
    refine TL_name 44 (v' := .bool true) rfl (congrArg Value.bool (by simp)) ?_
    refine TL_y rfl rfl (Y_pick_t rfl rfl) ?_
    refine TL_nil ?_
    refine T_cond_true rfl ?_
    refine T_skip ?_
    refine thenS_normal ?_
    refine T_seq ?_
    refine T_block ?_
    refine T_region_last ?_
    refine TL_y rfl rfl (Y_move rfl) ?_
    refine TL_y rfl rfl (Y_move rfl) ?_
    refine TL_y rfl rfl (Y_move rfl) ?_
    obtain ⟨u, hu⟩ : ∃ u, l[i]? = some u := ⟨_, List.getElem?_eq_getElem (by omega)⟩
    have hnx := addL_next (bs := List.replicate 7 false) (n := n) hu
    refine TL_index_int rfl rfl rfl slk hu ?_
    intro hi51 bi51 oi51
    refine TL_y rfl rfl (Y_load_row rfl rfl) ?_
    refine TL_pullc b1 ?_
    refine TL_call rfl rfl (add_spec (addL_len rfl) h.2 u) ?_
    rintro _ _ ⟨rfl, rfl⟩
    rw [← hnx]
    refine TL_nil ?_
    refine inB_normal ?_
    refine thenS_normal ?_
    refine T_region_last ?_
    refine TL_y rfl rfl (Y_move rfl) ?_
    refine TL_y rfl rfl (Y_add rfl rfl (by omega)) ?_
    refine TL_name 47 (v' := .int .i64 ((i + 1 : Nat) : Int)) rfl (rfl) ?_
    refine TL_y rfl rfl (Y_assign rfl) ?_
    refine TL_nil ?_
    refine thenS_normal ?_
    exact ⟨i + 1, (by omega), by omega, holds_to (sub_cons rfl (sub_cons rfl (sub_cons rfl (sub_cons rfl (sub_cons rfl (sub_cons rfl (sub_nil))))))) GivesTo.g⟩
  · refine TL_gskip rfl rfl rfl rfl ?_
    refine TL_gskip rfl rfl rfl rfl ?_
    refine TL_y rfl rfl (Y_pick_f rfl rfl) ?_
    refine TL_nil ?_
    refine T_cond_false rfl ?_
    refine T_exit ?_
    refine thenS_exit ?_
    refine thenS_exit ?_
    refine inB_hit ?_
    refine thenS_normal ?_
    refine T_seq ?_
    have e : l.take i = l := List.take_of_length_le (by omega)
    rw [e]
    refine T_region ?_
    refine TL_y rfl rfl (Y_assign rfl) ?_
    refine TL_nil ?_
    refine T_block ?_
    refine T_loopK (σ := Nat) [0, 2, 7, 9] (fun j => j ≤ m.length) (fun j kv => (12, .int .i64 (j : Int)) :: kv) (fun j => votes b1 (addL (List.replicate 7 false) n l) n :: votes b2 (addL (List.replicate 7 false) n (m.take j)) n :: sl (intR .i64) B d m :: sl (intR .i64) A c l :: L) (fun j => m.length - j) (0) rfl (Nat.zero_le _) (Gives.refl _) (sub_cons rfl (sub_cons rfl (sub_cons rfl (sub_cons rfl (sub_cons rfl (sub_nil)))))) ?_
    intro j hj
    refine T_seq ?_
    refine T_region ?_
    refine TL_y rfl rfl (Y_move rfl) ?_
    refine TL_y rfl rfl (Y_move rfl) ?_
    refine TL_y rfl rfl (Y_len rfl) ?_
    refine TL_y rfl rfl (Y_lt rfl rfl) ?_
    refine TL_y rfl rfl (Y_move rfl) ?_
    refine TL_splitd 58 rfl (fun h58 => ?_) (fun h58 => ?_)
    · refine TL_grun rfl rfl ?_
      refine TL_y rfl rfl (Y_move rfl) ?_
      refine TL_grun rfl rfl ?_
      refine TL_y rfl rfl (Y_unequal rfl rfl (EqIs.ptr_nil)) ?_
      refine TL_name 60 (v' := .bool true) rfl (congrArg Value.bool (by simp)) ?_
      refine TL_y rfl rfl (Y_pick_t rfl rfl) ?_
      refine TL_nil ?_
      refine T_cond_true rfl ?_
      refine T_skip ?_
      refine thenS_normal ?_
      refine T_seq ?_
      refine T_block ?_
      refine T_region_last ?_
      refine TL_y rfl rfl (Y_move rfl) ?_
      refine TL_y rfl rfl (Y_move rfl) ?_
      refine TL_y rfl rfl (Y_move rfl) ?_
      obtain ⟨u, hu⟩ : ∃ u, m[j]? = some u := ⟨_, List.getElem?_eq_getElem (by omega)⟩
      have hnx := addL_next (bs := List.replicate 7 false) (n := n) hu
      refine TL_index_int rfl rfl rfl slk hu ?_
      intro hi67 bi67 oi67
      refine TL_y rfl rfl (Y_load_row rfl rfl) ?_
      refine TL_pullc b2 ?_
      refine TL_call rfl rfl (add_spec (addL_len rfl) h.2 u) ?_
      rintro _ _ ⟨rfl, rfl⟩
      rw [← hnx]
      refine TL_nil ?_
      refine inB_normal ?_
      refine thenS_normal ?_
      refine T_region_last ?_
      refine TL_y rfl rfl (Y_move rfl) ?_
      refine TL_y rfl rfl (Y_add rfl rfl (by omega)) ?_
      refine TL_name 63 (v' := .int .i64 ((j + 1 : Nat) : Int)) rfl (rfl) ?_
      refine TL_y rfl rfl (Y_assign rfl) ?_
      refine TL_nil ?_
      refine thenS_normal ?_
      exact ⟨j + 1, (by omega), by omega, holds_to (sub_cons rfl (sub_cons rfl (sub_cons rfl (sub_cons rfl (sub_cons rfl (sub_nil)))))) GivesTo.g⟩
    · refine TL_gskip rfl rfl rfl rfl ?_
      refine TL_gskip rfl rfl rfl rfl ?_
      refine TL_y rfl rfl (Y_pick_f rfl rfl) ?_
      refine TL_nil ?_
      refine T_cond_false rfl ?_
      refine T_exit ?_
      refine thenS_exit ?_
      refine thenS_exit ?_
      refine inB_hit ?_
      refine thenS_normal ?_
      refine T_seq ?_
      have e2 : m.take j = m := List.take_of_length_le (by omega)
      rw [e2]
      refine T_region ?_
      refine TL_y rfl rfl (Y_move rfl) ?_
      refine TL_y rfl rfl (Y_equal rfl rfl (EqIs.ptr_nil)) ?_
      refine TL_name 71 (v' := .bool false) rfl (congrArg Value.bool (by simp)) ?_
      refine TL_y rfl rfl (Y_move rfl) ?_
      refine TL_grun rfl rfl ?_
      refine TL_y rfl rfl (Y_move rfl) ?_
      refine TL_grun rfl rfl ?_
      refine TL_pullc b1 ?_
      refine TL_call rfl rfl (enough_spec (addL_len rfl) h) ?_
      rintro _ _ ⟨rfl, rfl⟩
      refine TL_grun rfl rfl ?_
      refine TL_y rfl rfl (Y_not_d rfl) ?_
      refine TL_y rfl rfl (Y_pick_f rfl rfl) ?_
      refine TL_y rfl rfl (Y_move rfl) ?_
      refine TL_splitd 77 rfl (fun h77 => ?_) (fun h77 => ?_)
      · refine TL_gskip rfl rfl rfl rfl ?_
        refine TL_gskip rfl rfl rfl rfl ?_
        refine TL_gskip rfl rfl rfl rfl ?_
        refine TL_y rfl rfl (Y_pick_t rfl rfl) ?_
        refine TL_nil ?_
        refine T_cond_true rfl ?_
        refine T_region ?_
        refine TL_y rfl rfl (Y_assign rfl) ?_
        refine TL_nil ?_
        refine T_ret ?_
        refine thenS_ret ?_
        exact RetG_1 (.inl rfl) rfl (ResV.tmp rfl) GivesTo.g (⟨rfl, rfl⟩)
      · refine TL_grun rfl rfl ?_
        refine TL_y rfl rfl (Y_move rfl) ?_
        refine TL_grun rfl rfl ?_
        refine TL_pullc b2 ?_
        refine TL_call rfl rfl (enough_spec (addL_len rfl) h) ?_
        rintro _ _ ⟨rfl, rfl⟩
        refine TL_grun rfl rfl ?_
        refine TL_y rfl rfl (Y_not_d rfl) ?_
        refine TL_y rfl rfl (Y_pick_f rfl rfl) ?_
        refine TL_nil ?_
        refine T_if rfl (fun h81 => ?_) (fun h81 => ?_)
        · refine T_region ?_
          refine TL_y rfl rfl (Y_assign rfl) ?_
          refine TL_nil ?_
          refine T_ret ?_
          refine thenS_ret ?_
          exact RetG_1 (.inl rfl) rfl (ResV.tmp rfl) GivesTo.g (⟨rfl, rfl⟩)
        · refine T_skip ?_
          refine thenS_normal ?_
          refine T_seq ?_
          refine T_region ?_
          refine TL_y rfl rfl (Y_assign rfl) ?_
          refine TL_nil ?_
          refine T_block ?_
          refine T_loopK (σ := Nat) [0, 7, 9] (fun k => (k : Int) ≤ n ∧ ∀ q : Nat, q < k → ¬ (hasV (addL (List.replicate 7 false) n l) n (q : Int) ∧ hasV (addL (List.replicate 7 false) n m) n (q : Int))) (fun k kv => (13, .int .i64 (k : Int)) :: kv) (fun k => votes b1 (addL (List.replicate 7 false) n l) n :: votes b2 (addL (List.replicate 7 false) n m) n :: L) (fun k => 7 - k) (0) rfl (⟨by omega, fun q hq => by omega⟩) (GivesTo.g) (sub_cons rfl (sub_cons rfl (sub_cons rfl (sub_cons rfl (sub_nil))))) ?_
          intro k hk_
          refine T_seq ?_
          refine T_region ?_
          refine TL_y rfl rfl (Y_move rfl) ?_
          refine TL_y rfl rfl (Y_move rfl) ?_
          refine TL_y rfl rfl (Y_lt rfl rfl) ?_
          refine TL_nil ?_
          refine T_if rfl (fun h84 => ?_) (fun h84 => ?_)
          · refine T_skip ?_
            refine thenS_normal ?_
            refine T_seq ?_
            refine T_block ?_
            refine T_region ?_
            refine TL_y rfl rfl (Y_move rfl) ?_
            refine TL_y rfl rfl (Y_move rfl) ?_
            refine TL_pullc b1 ?_
            refine TL_call rfl rfl (has_spec (addL_len rfl) h.2 _) ?_
            rintro _ _ ⟨rfl, rfl⟩
            refine TL_y rfl rfl (Y_move rfl) ?_
            refine TL_splitd 90 rfl (fun h90 => ?_) (fun h90 => ?_)
            · refine TL_grun rfl rfl ?_
              refine TL_y rfl rfl (Y_move rfl) ?_
              refine TL_grun rfl rfl ?_
              refine TL_y rfl rfl (Y_move rfl) ?_
              refine TL_grun rfl rfl ?_
              refine TL_pullc b2 ?_
              refine TL_call rfl rfl (has_spec (addL_len rfl) h.2 _) ?_
              rintro _ _ ⟨rfl, rfl⟩
              refine TL_y rfl rfl (Y_pick_t rfl rfl) ?_
              refine TL_nil ?_
              refine T_if rfl (fun h94 => ?_) (fun h94 => ?_)
              · refine T_region ?_
                refine TL_y rfl rfl (Y_assign rfl) ?_
                refine TL_nil ?_
                refine T_ret ?_
                refine inB_ret ?_
                refine thenS_ret ?_
                refine thenS_ret ?_
                refine inB_ret ?_
                refine thenS_ret ?_
                exact RetG_1 (.inl rfl) rfl (ResV.tmp rfl) GivesTo.g (⟨rfl, rfl⟩)
              · refine T_skip ?_
                refine inB_normal ?_
                refine thenS_normal ?_
                refine T_region_last ?_
                refine TL_y rfl rfl (Y_move rfl) ?_
                refine TL_y rfl rfl (Y_add rfl rfl (by omega)) ?_
                refine TL_name 86 (v' := .int .i64 ((k + 1 : Nat) : Int)) rfl (rfl) ?_
                refine TL_y rfl rfl (Y_assign rfl) ?_
                refine TL_nil ?_
                refine thenS_normal ?_
                exact ⟨k + 1, ⟨by omega, fun q hq => by rcases Nat.lt_succ_iff_lt_or_eq.1 hq with hq | rfl; exact hk_.2 q hq; exact fun hh => h94 hh.2⟩, by omega, holds_to (sub_cons rfl (sub_cons rfl (sub_cons rfl (sub_cons rfl (sub_nil))))) GivesTo.g⟩
            · refine TL_gskip rfl rfl rfl rfl ?_
              refine TL_gskip rfl rfl rfl rfl ?_
              refine TL_gskip rfl rfl rfl rfl ?_
              refine TL_y rfl rfl (Y_pick_f rfl rfl) ?_
              refine TL_nil ?_
              refine T_cond_false rfl ?_
              refine T_skip ?_
              refine inB_normal ?_
              refine thenS_normal ?_
              refine T_region_last ?_
              refine TL_y rfl rfl (Y_move rfl) ?_
              refine TL_y rfl rfl (Y_add rfl rfl (by omega)) ?_
              refine TL_name 86 (v' := .int .i64 ((k + 1 : Nat) : Int)) rfl (rfl) ?_
              refine TL_y rfl rfl (Y_assign rfl) ?_
              refine TL_nil ?_
              refine thenS_normal ?_
              exact ⟨k + 1, ⟨by omega, fun q hq => by rcases Nat.lt_succ_iff_lt_or_eq.1 hq with hq | rfl; exact hk_.2 q hq; exact fun hh => h90 hh.1⟩, by omega, holds_to (sub_cons rfl (sub_cons rfl (sub_cons rfl (sub_cons rfl (sub_nil))))) GivesTo.g⟩
          · refine T_exit ?_
            refine thenS_exit ?_
            refine thenS_exit ?_
            refine inB_hit ?_
            refine thenS_normal ?_
            refine T_region ?_
            refine TL_y rfl rfl (Y_assign rfl) ?_
            refine TL_nil ?_
            refine T_ret ?_
            exact RetG_1 (.inl rfl) rfl (ResV.tmp rfl) GivesTo.g (⟨by exfalso; have := allV_disj h (fun q hq => hk_.2 q (by omega)); omega, rfl⟩)
theorem ballotMeets_walk {L : List HP} {A B : Option Addr} {c d : Nat} {l m : List Int} (n : Int) (hk : SlK L (intR .i64) A c l) (hk2 : SlK L (intR .i64) B d m) (hl : l.length ≤ 17592186044416) (hm : m.length ≤ 17592186044416) : Fn Try.prog 7 #[.int .i64 n, .slice A l.length c, .slice B m.length d] L (fun v L' => v = .bool true ∧ L' = L) := by
  by_cases h : 1 ≤ n ∧ n ≤ 7
  · exact meets_ok n h hk hk2 hl hm
  · exact meets_bad n h hk hk2
end Go.SL
