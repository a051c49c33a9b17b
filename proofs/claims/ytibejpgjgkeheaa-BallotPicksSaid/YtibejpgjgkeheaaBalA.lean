/- Ballots: the walks of the functions on votes. -/
import Derived.Test.YtibejpgjgkeheaaSlT
import Derived.Test.YtibejpgjgkeheaaSlI
set_option linter.unusedVariables false
set_option linter.unusedSimpArgs false
namespace Go.SL
open Go Go.Proofs

instance intInDec (k : IntKind) (x : Int) : Decidable (intIn k x) := by unfold intIn; exact inferInstance
/-! ### Votes in memory -/
def vc (bs : List Bool) (n : Int) : List Value := bs.map Value.bool ++ [.int .i64 n]
abbrev votes (b : Nat) (bs : List Bool) (n : Int) : HP := cells b (vc bs n) 154
theorem vc_nodes {bs : List Bool} {n : Int} (h : bs.length = 7) : cellN (vc bs n) (0 + 7) = some (.int .i64 n) := cellN_of (by simp [vc, h])
theorem vc_at {bs : List Bool} {n : Int} {j : Nat} {u : Bool} (h : bs[j]? = some u) : cellN (vc bs n) (0 + 0 + j * 1) = some (.bool u) := cellN_of (by
  have hj := (List.getElem?_eq_some_iff.1 h).1
  rw [vc, List.getElem?_append_left (by simpa using hj)]
  simp [h])
theorem vc_set {bs : List Bool} {n : Int} {j : Nat} (hj : j < bs.length) : setN (0 + 0 + j * 1) (vc bs n) [.bool true] = some (vc (bs.set j true) n) := by
  rw [setN_one (by simp [vc]; omega)]
  simp only [Nat.zero_add, Nat.mul_one, vc]
  rw [List.set_append_left _ _ (by simpa using hj), List.map_set]
theorem vc_cut {bs : List Bool} {n : Int} (h : bs.length = 7) : cutN (0 + 0) 7 (vc bs n) = some (bs.map Value.bool) := by
  have := takeN_app (bs.map Value.bool) [.int .i64 n]
  rw [List.length_map, h] at this
  simpa [cutN, vc] using this
/-- There is such a node. -/
def isV (n node : Int) : Prop := 0 ≤ node ∧ node < n
instance (n node : Int) : Decidable (isV n node) := by unfold isV; exact inferInstance
/-- It voted. -/
def hasV (bs : List Bool) (n node : Int) : Prop := isV n node ∧ bs[node.toNat]? = some true
instance (bs : List Bool) (n node : Int) : Decidable (hasV bs n node) := by unfold hasV; exact inferInstance
def addV (bs : List Bool) (n node : Int) : List Bool := if isV n node then bs.set node.toNat true else bs

theorem set_self {α : Type} {l : List α} {i : Nat} {u : α} (h : l[i]? = some u) : l.set i u = l := by
  apply List.ext_getElem?
  intro j
  rw [List.getElem?_set]
  split
  · rename_i e; subst e
    rw [h, if_pos (List.getElem?_eq_some_iff.1 h).1]
  · rfl
theorem quorum_spec (n : Int) (hn : intIn .i64 n) (L : List HP) : Fn Try.prog 59 #[.int .i64 n] L (fun v L' => v = .int .i64 (if n < 1 ∨ n > 7 then 0 else n / 2 + 1) ∧ L' = L) := by
  refine Fn_enter Try.func59 rfl rfl rfl rfl ?_
  refine T_region ?_
  refine TL_y rfl rfl (Y_assign rfl) ?_
  refine TL_nil ?_
  refine T_seq ?_
  refine T_region ?_
  refine TL_y rfl rfl (Y_move rfl) ?_
  refine TL_y rfl rfl (Y_lt rfl rfl) ?_
  refine TL_y rfl rfl (Y_move rfl) ?_
  refine TL_splitd 5 rfl (fun h5 => ?_) (fun h5 => ?_)
  · refine TL_gskip rfl rfl rfl rfl ?_
    refine TL_gskip rfl rfl rfl rfl ?_
    refine TL_y rfl rfl (Y_pick_t rfl rfl) ?_
    refine TL_nil ?_
    refine T_cond_true rfl ?_
    refine T_region ?_
    refine TL_y rfl rfl (Y_assign rfl) ?_
    refine TL_nil ?_
    refine T_ret ?_
    refine thenS_ret ?_
    exact RetG_1 (.inl rfl) rfl (ResV.tmp rfl) GivesTo.g (⟨by rw [if_pos (by omega)], rfl⟩)
  · refine TL_grun rfl rfl ?_
    refine TL_y rfl rfl (Y_move rfl) ?_
    refine TL_grun rfl rfl ?_
    refine TL_y rfl rfl (Y_gt rfl rfl) ?_
    refine TL_y rfl rfl (Y_pick_f rfl rfl) ?_
    refine TL_nil ?_
    refine T_if rfl (fun h8 => ?_) (fun h8 => ?_)
    · refine T_region ?_
      refine TL_y rfl rfl (Y_assign rfl) ?_
      refine TL_nil ?_
      refine T_ret ?_
      refine thenS_ret ?_
      exact RetG_1 (.inl rfl) rfl (ResV.tmp rfl) GivesTo.g (⟨by rw [if_pos (by omega)], rfl⟩)
    · refine T_skip ?_
      refine thenS_normal ?_
      refine T_region ?_
      refine TL_y rfl rfl (Y_move rfl) ?_
      refine TL_y rfl rfl (Y_quo rfl rfl (by omega)) ?_
      refine TL_y rfl rfl (Y_add rfl rfl (by omega)) ?_
      refine TL_y rfl rfl (Y_assign rfl) ?_
      refine TL_nil ?_
      refine T_ret ?_
      exact RetG_1 (.inl rfl) rfl (ResV.tmp rfl) GivesTo.g (⟨by rw [if_neg (by omega)], rfl⟩)

theorem newVotes_spec (n : Int) (L : List HP) : Fn Try.prog 56 #[.int .i64 n] L (fun v L' => (¬ (1 ≤ n ∧ n ≤ 7) ∧ v = .tuple #[.pointer none, .int .i64 1] ∧ L' = L) ∨ ((1 ≤ n ∧ n ≤ 7) ∧ ∃ b, v = .tuple #[.pointer (some ⟨b, 0, none⟩), .int .i64 0] ∧ L' = votes b (List.replicate 7 false) n :: L)) := by
  refine Fn_enter Try.func56 rfl rfl rfl rfl ?_
  refine T_region ?_
  refine TL_y rfl rfl (Y_assign rfl) ?_
  refine TL_y rfl rfl (Y_assign rfl) ?_
  refine TL_nil ?_
  refine T_seq ?_
  refine T_region ?_
  refine TL_y rfl rfl (Y_move rfl) ?_
  refine TL_y rfl rfl (Y_lt rfl rfl) ?_
  refine TL_y rfl rfl (Y_move rfl) ?_
  refine TL_splitd 6 rfl (fun h6 => ?_) (fun h6 => ?_)
  · refine TL_gskip rfl rfl rfl rfl ?_
    refine TL_gskip rfl rfl rfl rfl ?_
    refine TL_y rfl rfl (Y_pick_t rfl rfl) ?_
    refine TL_nil ?_
    refine T_cond_true rfl ?_
    refine T_region ?_
    refine TL_y rfl rfl (Y_assign rfl) ?_
    refine TL_y rfl rfl (Y_assign rfl) ?_
    refine TL_nil ?_
    refine T_ret ?_
    refine thenS_ret ?_
    exact RetG_2 (.inl rfl) rfl (ResV.tmp rfl) (ResV.tmp rfl) GivesTo.g (.inl ⟨by omega, rfl, rfl⟩)
  · refine TL_grun rfl rfl ?_
    refine TL_y rfl rfl (Y_move rfl) ?_
    refine TL_grun rfl rfl ?_
    refine TL_y rfl rfl (Y_gt rfl rfl) ?_
    refine TL_y rfl rfl (Y_pick_f rfl rfl) ?_
    refine TL_nil ?_
    refine T_if rfl (fun h9 => ?_) (fun h9 => ?_)
    · refine T_region ?_
      refine TL_y rfl rfl (Y_assign rfl) ?_
      refine TL_y rfl rfl (Y_assign rfl) ?_
      refine TL_nil ?_
      refine T_ret ?_
      refine thenS_ret ?_
      exact RetG_2 (.inl rfl) rfl (ResV.tmp rfl) (ResV.tmp rfl) GivesTo.g (.inl ⟨by omega, rfl, rfl⟩)
    · refine T_skip ?_
      refine thenS_normal ?_
      refine T_region ?_
      refine TL_y rfl rfl (Y_move rfl) ?_
      refine TL_y rfl rfl (Y_build rfl rfl) ?_
      refine TL_box rfl rfl rfl ?_
      intro b12
      show TL _ _ _ _ _ ⟨_, _, votes b12 (List.replicate 7 false) n :: L⟩ _
      refine TL_y rfl rfl (Y_assign rfl) ?_
      refine TL_y rfl rfl (Y_assign rfl) ?_
      refine TL_nil ?_
      refine T_ret ?_
      exact RetG_2 (.inl rfl) rfl (ResV.tmp rfl) (ResV.tmp rfl) GivesTo.g (.inr ⟨by omega, b12, rfl, rfl⟩)

theorem is_spec {L : List HP} {b : Nat} {bs : List Bool} {n : Int} (hb : bs.length = 7) (node : Int) : Fn Try.prog 94 #[.pointer (some ⟨b, 0, none⟩), .int .i64 node] (votes b bs n :: L) (fun v L' => v = .bool (decide (isV n node)) ∧ L' = votes b bs n :: L) := by
  refine Fn_enter Try.func94 rfl rfl rfl rfl ?_
  refine T_region ?_
  refine TL_y rfl rfl (Y_assign rfl) ?_
  refine TL_nil ?_
  refine T_region ?_
  refine TL_y rfl rfl (Y_move rfl) ?_
  refine TL_y rfl rfl (Y_unequal rfl rfl (EqIs.ptr_nil)) ?_
  refine TL_name 6 (v' := .bool true) rfl (congrArg Value.bool (by simp)) ?_
  refine TL_y rfl rfl (Y_move rfl) ?_
  refine TL_grun rfl rfl ?_
  refine TL_y rfl rfl (Y_move rfl) ?_
  refine TL_grun rfl rfl ?_
  refine TL_y rfl rfl (Y_ge rfl rfl) ?_
  refine TL_y rfl rfl (Y_pick_t rfl rfl) ?_
  refine TL_y rfl rfl (Y_move rfl) ?_
  refine TL_splitd 11 rfl (fun h11 => ?_) (fun h11 => ?_)
  · refine TL_grun rfl rfl ?_
    refine TL_y rfl rfl (Y_move rfl) ?_
    refine TL_grun rfl rfl ?_
    refine TL_y rfl rfl (Y_move rfl) ?_
    refine TL_grun rfl rfl ?_
    refine TL_y rfl rfl (Y_nil_check rfl) ?_
    refine TL_grun rfl rfl ?_
    refine TL_y rfl rfl (Y_field_addr rfl) ?_
    refine TL_grun rfl rfl ?_
    refine TL_y rfl rfl (Y_load rfl (vc_nodes hb)) ?_
    refine TL_grun rfl rfl ?_
    refine TL_y rfl rfl (Y_lt rfl rfl) ?_
    refine TL_y rfl rfl (Y_pick_t rfl rfl) ?_
    refine TL_y rfl rfl (Y_assign rfl) ?_
    refine TL_nil ?_
    refine T_ret ?_
    exact RetG_1 (.inl rfl) rfl (ResV.tmp rfl) GivesTo.g (⟨by rw [decide_eq_decide.2 (show isV n node ↔ node < n from ⟨fun h => h.2, fun h => ⟨h11, h⟩⟩)], rfl⟩)
  · refine TL_gskip rfl rfl rfl rfl ?_
    refine TL_gskip rfl rfl rfl rfl ?_
    refine TL_gskip rfl rfl rfl rfl ?_
    refine TL_gskip rfl rfl rfl rfl ?_
    refine TL_gskip rfl rfl rfl rfl ?_
    refine TL_gskip rfl rfl rfl rfl ?_
    refine TL_y rfl rfl (Y_pick_f rfl rfl) ?_
    refine TL_y rfl rfl (Y_assign rfl) ?_
    refine TL_nil ?_
    refine T_ret ?_
    exact RetG_1 (.inl rfl) rfl (ResV.tmp rfl) GivesTo.g (⟨by rw [decide_eq_false (fun h : isV n node => h11 h.1)], rfl⟩)
theorem is_nil_spec (L : List HP) (node : Int) : Fn Try.prog 94 #[.pointer none, .int .i64 node] L (fun v L' => v = .bool false ∧ L' = L) := by
  refine Fn_enter Try.func94 rfl rfl rfl rfl ?_
  refine T_region ?_
  refine TL_y rfl rfl (Y_assign rfl) ?_
  refine TL_nil ?_
  refine T_region ?_
  refine TL_y rfl rfl (Y_move rfl) ?_
  refine TL_y rfl rfl (Y_unequal rfl rfl (EqIs.ptr_nil)) ?_
  refine TL_name 6 (v' := .bool false) rfl (congrArg Value.bool (by simp)) ?_
  refine TL_y rfl rfl (Y_move rfl) ?_
  refine TL_gskip rfl rfl rfl rfl ?_
  refine TL_gskip rfl rfl rfl rfl ?_
  refine TL_y rfl rfl (Y_pick_f rfl rfl) ?_
  refine TL_y rfl rfl (Y_move rfl) ?_
  refine TL_gskip rfl rfl rfl rfl ?_
  refine TL_gskip rfl rfl rfl rfl ?_
  refine TL_gskip rfl rfl rfl rfl ?_
  refine TL_gskip rfl rfl rfl rfl ?_
  refine TL_gskip rfl rfl rfl rfl ?_
  refine TL_gskip rfl rfl rfl rfl ?_
  refine TL_y rfl rfl (Y_pick_f rfl rfl) ?_
  refine TL_y rfl rfl (Y_assign rfl) ?_
  refine TL_nil ?_
  refine T_ret ?_
  exact RetG_1 (.inl rfl) rfl (ResV.tmp rfl) GivesTo.g (⟨rfl, rfl⟩)

theorem has_spec {L : List HP} {b : Nat} {bs : List Bool} {n : Int} (hb : bs.length = 7) (hn : n ≤ 7) (node : Int) : Fn Try.prog 109 #[.pointer (some ⟨b, 0, none⟩), .int .i64 node] (votes b bs n :: L) (fun v L' => v = .bool (decide (hasV bs n node)) ∧ L' = votes b bs n :: L) := by
  refine Fn_enter Try.func109 rfl rfl rfl rfl ?_
  refine T_region ?_
  refine TL_y rfl rfl (Y_assign rfl) ?_
  refine TL_nil ?_
  refine T_region ?_
  refine TL_y rfl rfl (Y_move rfl) ?_
  refine TL_y rfl rfl (Y_move rfl) ?_
  refine TL_call rfl rfl (is_spec hb node) ?_
  rintro _ _ ⟨rfl, rfl⟩
  refine TL_y rfl rfl (Y_move rfl) ?_
  refine TL_splitd 8 rfl (fun h8 => ?_) (fun h8 => ?_)
  · refine TL_grun rfl rfl ?_
    obtain ⟨j, rfl⟩ : ∃ j : Nat, node = (j : Int) := ⟨node.toNat, by have := h8.1; omega⟩
    have hj : j < 7 := by have := h8.2; omega
    obtain ⟨u, hu⟩ : ∃ u, bs[j]? = some u := ⟨_, List.getElem?_eq_getElem (by omega)⟩
    refine TL_y rfl rfl (Y_move rfl) ?_
    refine TL_grun rfl rfl ?_
    refine TL_y rfl rfl (Y_move rfl) ?_
    refine TL_grun rfl rfl ?_
    refine TL_y rfl rfl (Y_nil_check rfl) ?_
    refine TL_grun rfl rfl ?_
    refine TL_y rfl rfl (Y_field_addr rfl) ?_
    refine TL_grun rfl rfl ?_
    refine TL_y rfl rfl (Y_index_arr rfl rfl hj) ?_
    refine TL_grun rfl rfl ?_
    refine TL_y rfl rfl (Y_load rfl (vc_at hu)) ?_
    refine TL_y rfl rfl (Y_pick_t rfl rfl) ?_
    refine TL_y rfl rfl (Y_assign rfl) ?_
    refine TL_nil ?_
    refine T_ret ?_
    exact RetG_1 (.inl rfl) rfl (ResV.tmp rfl) GivesTo.g (⟨by cases u <;> simp [hasV, h8, hu], rfl⟩)
  · refine TL_gskip rfl rfl rfl rfl ?_
    refine TL_gskip rfl rfl rfl rfl ?_
    refine TL_gskip rfl rfl rfl rfl ?_
    refine TL_gskip rfl rfl rfl rfl ?_
    refine TL_gskip rfl rfl rfl rfl ?_
    refine TL_gskip rfl rfl rfl rfl ?_
    refine TL_y rfl rfl (Y_pick_f rfl rfl) ?_
    refine TL_y rfl rfl (Y_assign rfl) ?_
    refine TL_nil ?_
    refine T_ret ?_
    exact RetG_1 (.inl rfl) rfl (ResV.tmp rfl) GivesTo.g (⟨by rw [decide_eq_false (fun h : hasV bs n node => h8 h.1)], rfl⟩)
theorem has_nil_spec (L : List HP) (node : Int) : Fn Try.prog 109 #[.pointer none, .int .i64 node] L (fun v L' => v = .bool false ∧ L' = L) := by
  refine Fn_enter Try.func109 rfl rfl rfl rfl ?_
  refine T_region ?_
  refine TL_y rfl rfl (Y_assign rfl) ?_
  refine TL_nil ?_
  refine T_region ?_
  refine TL_y rfl rfl (Y_move rfl) ?_
  refine TL_y rfl rfl (Y_move rfl) ?_
  refine TL_call rfl rfl (is_nil_spec _ _) ?_
  rintro _ _ ⟨rfl, rfl⟩
  refine TL_name 7 (v' := .bool false) rfl (rfl) ?_
  refine TL_y rfl rfl (Y_move rfl) ?_
  refine TL_gskip rfl rfl rfl rfl ?_
  refine TL_gskip rfl rfl rfl rfl ?_
  refine TL_gskip rfl rfl rfl rfl ?_
  refine TL_gskip rfl rfl rfl rfl ?_
  refine TL_gskip rfl rfl rfl rfl ?_
  refine TL_gskip rfl rfl rfl rfl ?_
  refine TL_y rfl rfl (Y_pick_f rfl rfl) ?_
  refine TL_y rfl rfl (Y_assign rfl) ?_
  refine TL_nil ?_
  refine T_ret ?_
  exact RetG_1 (.inl rfl) rfl (ResV.tmp rfl) GivesTo.g (⟨rfl, rfl⟩)

theorem add_spec {L : List HP} {b : Nat} {bs : List Bool} {n : Int} (hb : bs.length = 7) (hn : n ≤ 7) (node : Int) : Fn Try.prog 57 #[.pointer (some ⟨b, 0, none⟩), .int .i64 node] (votes b bs n :: L) (fun v L' => v = .bool (decide (isV n node ∧ ¬ hasV bs n node)) ∧ L' = votes b (addV bs n node) n :: L) := by
  refine Fn_enter Try.func57 rfl rfl rfl rfl ?_
  refine T_region ?_
  refine TL_y rfl rfl (Y_assign rfl) ?_
  refine TL_nil ?_
  refine T_seq ?_
  refine T_region ?_
  refine TL_y rfl rfl (Y_move rfl) ?_
  refine TL_y rfl rfl (Y_move rfl) ?_
  refine TL_call rfl rfl (is_spec hb node) ?_
  rintro _ _ ⟨rfl, rfl⟩
  refine TL_y rfl rfl (Y_not_d rfl) ?_
  refine TL_y rfl rfl (Y_move rfl) ?_
  refine TL_splitd 9 rfl (fun h9 => ?_) (fun h9 => ?_)
  · refine TL_gskip rfl rfl rfl rfl ?_
    refine TL_gskip rfl rfl rfl rfl ?_
    refine TL_gskip rfl rfl rfl rfl ?_
    refine TL_gskip rfl rfl rfl rfl ?_
    refine TL_gskip rfl rfl rfl rfl ?_
    refine TL_gskip rfl rfl rfl rfl ?_
    refine TL_y rfl rfl (Y_pick_t rfl rfl) ?_
    refine TL_nil ?_
    refine T_cond_true rfl ?_
    refine T_region ?_
    refine TL_y rfl rfl (Y_assign rfl) ?_
    refine TL_nil ?_
    refine T_ret ?_
    refine thenS_ret ?_
    exact RetG_1 (.inl rfl) rfl (ResV.tmp rfl) GivesTo.g (⟨by rw [decide_eq_false (fun h => h9 h.1)], by rw [addV, if_neg h9]⟩)
  · refine TL_grun rfl rfl ?_
    have h9' := Classical.not_not.1 h9
    obtain ⟨j, rfl⟩ : ∃ j : Nat, node = (j : Int) := ⟨node.toNat, by have := h9'.1; omega⟩
    have hj : j < 7 := by have := h9'.2; omega
    obtain ⟨u, hu⟩ : ∃ u, bs[j]? = some u := ⟨_, List.getElem?_eq_getElem (by omega)⟩
    refine TL_y rfl rfl (Y_move rfl) ?_
    refine TL_grun rfl rfl ?_
    refine TL_y rfl rfl (Y_move rfl) ?_
    refine TL_grun rfl rfl ?_
    refine TL_y rfl rfl (Y_nil_check rfl) ?_
    refine TL_grun rfl rfl ?_
    refine TL_y rfl rfl (Y_field_addr rfl) ?_
    refine TL_grun rfl rfl ?_
    refine TL_y rfl rfl (Y_index_arr rfl rfl hj) ?_
    refine TL_grun rfl rfl ?_
    refine TL_y rfl rfl (Y_load rfl (vc_at hu)) ?_
    refine TL_y rfl rfl (Y_pick_f rfl rfl) ?_
    refine TL_nil ?_
    refine T_cond rfl (fun h16 => ?_) (fun h16 => ?_)
    · subst h16
      refine T_region ?_
      refine TL_y rfl rfl (Y_assign rfl) ?_
      refine TL_nil ?_
      refine T_ret ?_
      refine thenS_ret ?_
      exact RetG_1 (.inl rfl) rfl (ResV.tmp rfl) GivesTo.g (⟨by rw [decide_eq_false (fun h => h.2 ⟨h9', by simpa using hu⟩)], by rw [addV, if_pos h9', Int.toNat_natCast, set_self hu]⟩)
    · subst h16
      refine T_skip ?_
      refine thenS_normal ?_
      refine T_region ?_
      refine TL_y rfl rfl (Y_move rfl) ?_
      refine TL_y rfl rfl (Y_move rfl) ?_
      refine TL_y rfl rfl (Y_nil_check rfl) ?_
      refine TL_y rfl rfl (Y_field_addr rfl) ?_
      refine TL_y rfl rfl (Y_index_arr rfl rfl hj) ?_
      refine TL_store rfl rfl rfl rfl rfl (vc_set (by omega)) ?_
      refine TL_nil ?_
      refine T_region ?_
      refine TL_y rfl rfl (Y_assign rfl) ?_
      refine TL_nil ?_
      refine T_ret ?_
      exact RetG_1 (.inl rfl) rfl (ResV.tmp rfl) GivesTo.g (⟨by rw [decide_eq_true ⟨h9', fun h => by have := h.2; simp [hu] at this⟩], by rw [addV, if_pos h9', Int.toNat_natCast]⟩)
theorem add_nil_spec (L : List HP) (node : Int) : Fn Try.prog 57 #[.pointer none, .int .i64 node] L (fun v L' => v = .bool false ∧ L' = L) := by
  refine Fn_enter Try.func57 rfl rfl rfl rfl ?_
  refine T_region ?_
  refine TL_y rfl rfl (Y_assign rfl) ?_
  refine TL_nil ?_
  refine T_seq ?_
  refine T_region ?_
  refine TL_y rfl rfl (Y_move rfl) ?_
  refine TL_y rfl rfl (Y_move rfl) ?_
  refine TL_call rfl rfl (is_nil_spec _ _) ?_
  rintro _ _ ⟨rfl, rfl⟩
  refine TL_name 7 (v' := .bool false) rfl (rfl) ?_
  refine TL_y rfl rfl (Y_not_f rfl) ?_
  refine TL_y rfl rfl (Y_move rfl) ?_
  refine TL_gskip rfl rfl rfl rfl ?_
  refine TL_gskip rfl rfl rfl rfl ?_
  refine TL_gskip rfl rfl rfl rfl ?_
  refine TL_gskip rfl rfl rfl rfl ?_
  refine TL_gskip rfl rfl rfl rfl ?_
  refine TL_gskip rfl rfl rfl rfl ?_
  refine TL_y rfl rfl (Y_pick_t rfl rfl) ?_
  refine TL_nil ?_
  refine T_cond_true rfl ?_
  refine T_region ?_
  refine TL_y rfl rfl (Y_assign rfl) ?_
  refine TL_nil ?_
  refine T_ret ?_
  refine thenS_ret ?_
  exact RetG_1 (.inl rfl) rfl (ResV.tmp rfl) GivesTo.g (⟨rfl, rfl⟩)
end Go.SL
