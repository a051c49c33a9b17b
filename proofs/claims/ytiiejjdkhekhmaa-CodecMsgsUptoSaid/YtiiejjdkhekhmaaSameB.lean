/- The walks of the functions that tell whether events, votes, messages are the same. -/
import Derived.Test.YtiiejjdkhekhmaaSameA
import Derived.Test.YtiiejjdkhekhmaaPair
set_option linter.unusedVariables false
set_option linter.unusedSimpArgs false
namespace Go.SL
open Go Go.Proofs
theorem event_eq {a b : EventD} : a = b ↔ a.dot = b.dot ∧ a.deps = b.deps ∧ a.cart = b.cart ∧ a.epoch = b.epoch ∧ a.sku = b.sku ∧ a.qty = b.qty ∧ a.clears = b.clears := by cases a; cases b; simp
theorem voted_eq {a b : VotedD} : a = b ↔ a.slot = b.slot ∧ a.bal = b.bal ∧ a.en = b.en := by cases a; cases b; simp
theorem msg_eq {a b : MsgD} : a = b ↔ a.kind = b.kind ∧ a.frm = b.frm ∧ a.to_ = b.to_ ∧ a.bal = b.bal ∧ a.slot = b.slot ∧ a.en = b.en ∧ a.voted = b.voted ∧ a.seen = b.seen ∧ a.events = b.events ∧ a.time = b.time := by cases a; cases b; simp
instance : DecidableEq MsgD := fun a b => decidable_of_iff _ msg_eq.symm
theorem sameEvent_spec {L : List HP} {A B : Option Addr} {c d : Nat} (a b : EventD) (hk : SlN L (intR .i64) A c a.deps) (hk2 : SlN L (intR .i64) B d b.deps) : Fn Try.prog 48 #[.agg (List.toArray (eventC a (A, c))), .agg (List.toArray (eventC b (B, d)))] L (fun v L' => v = .bool (decide (a = b)) ∧ L' = L) := by
  refine Fn_enter Try.func48 rfl rfl rfl rfl ?_
  refine T_region ?_
  refine TL_box rfl rfl rfl ?_
  intro b2
  refine TL_box rfl rfl rfl ?_
  intro b3
  refine TL_y rfl rfl (Y_assign rfl) ?_
  refine TL_nil ?_
  refine T_region ?_
  refine TL_y rfl rfl (Y_field_addr rfl) ?_
  refine TL_y rfl rfl (Y_load_agg rfl rfl) ?_
  refine TL_y rfl rfl (Y_field_addr rfl) ?_
  refine TL_y rfl rfl (Y_load_agg rfl rfl) ?_
  refine TL_both 43 51 (a = b) ?_ ?_
  · refine TL_y rfl rfl (Y_eq_dot (a := a.dot) (b := b.dot) rfl rfl) ?_
    refine TL_y rfl rfl (Y_move rfl) ?_
    refine TL_splitd 10 rfl (fun h10 => ?_) (fun h10 => ?_)
    · refine TL_grun rfl rfl ?_
      refine TL_y rfl rfl (Y_field_addr rfl) ?_
      refine TL_grun rfl rfl ?_
      refine TL_y rfl rfl (Y_load rfl rfl) ?_
      refine TL_grun rfl rfl ?_
      refine TL_y rfl rfl (Y_field_addr rfl) ?_
      refine TL_grun rfl rfl ?_
      refine TL_y rfl rfl (Y_load rfl rfl) ?_
      refine TL_grun rfl rfl ?_
      refine TL_call rfl rfl (sameVector_spec hk.tail.tail hk2.tail.tail) ?_
      rintro _ _ ⟨rfl, rfl⟩
      refine TL_y rfl rfl (Y_pick_t rfl rfl) ?_
      refine TL_y rfl rfl (Y_move rfl) ?_
      refine TL_splitd 17 rfl (fun h17 => ?_) (fun h17 => ?_)
      · refine TL_grun rfl rfl ?_
        refine TL_y rfl rfl (Y_field_addr rfl) ?_
        refine TL_grun rfl rfl ?_
        refine TL_y rfl rfl (Y_load rfl rfl) ?_
        refine TL_grun rfl rfl ?_
        refine TL_y rfl rfl (Y_field_addr rfl) ?_
        refine TL_grun rfl rfl ?_
        refine TL_y rfl rfl (Y_load rfl rfl) ?_
        refine TL_grun rfl rfl ?_
        refine TL_y rfl rfl (Y_str_eq rfl rfl) ?_
        refine TL_y rfl rfl (Y_pick_t rfl rfl) ?_
        refine TL_y rfl rfl (Y_move rfl) ?_
        refine TL_splitd 24 rfl (fun h24 => ?_) (fun h24 => ?_)
        · refine TL_grun rfl rfl ?_
          refine TL_y rfl rfl (Y_field_addr rfl) ?_
          refine TL_grun rfl rfl ?_
          refine TL_y rfl rfl (Y_load rfl rfl) ?_
          refine TL_grun rfl rfl ?_
          refine TL_y rfl rfl (Y_field_addr rfl) ?_
          refine TL_grun rfl rfl ?_
          refine TL_y rfl rfl (Y_load rfl rfl) ?_
          refine TL_grun rfl rfl ?_
          refine TL_y rfl rfl (Y_eq rfl rfl) ?_
          refine TL_y rfl rfl (Y_pick_t rfl rfl) ?_
          refine TL_y rfl rfl (Y_move rfl) ?_
          refine TL_splitd 31 rfl (fun h31 => ?_) (fun h31 => ?_)
          · refine TL_grun rfl rfl ?_
            refine TL_y rfl rfl (Y_field_addr rfl) ?_
            refine TL_grun rfl rfl ?_
            refine TL_y rfl rfl (Y_load rfl rfl) ?_
            refine TL_grun rfl rfl ?_
            refine TL_y rfl rfl (Y_field_addr rfl) ?_
            refine TL_grun rfl rfl ?_
            refine TL_y rfl rfl (Y_load rfl rfl) ?_
            refine TL_grun rfl rfl ?_
            refine TL_y rfl rfl (Y_str_eq rfl rfl) ?_
            refine TL_y rfl rfl (Y_pick_t rfl rfl) ?_
            refine TL_y rfl rfl (Y_move rfl) ?_
            refine TL_splitd 38 rfl (fun h38 => ?_) (fun h38 => ?_)
            · refine TL_grun rfl rfl ?_
              refine TL_y rfl rfl (Y_field_addr rfl) ?_
              refine TL_grun rfl rfl ?_
              refine TL_y rfl rfl (Y_load rfl rfl) ?_
              refine TL_grun rfl rfl ?_
              refine TL_y rfl rfl (Y_field_addr rfl) ?_
              refine TL_grun rfl rfl ?_
              refine TL_y rfl rfl (Y_load rfl rfl) ?_
              refine TL_grun rfl rfl ?_
              refine TL_y rfl rfl (Y_eq rfl rfl) ?_
              refine TL_y rfl rfl (Y_pick_t rfl rfl) ?_
              refine TL_y rfl rfl (Y_move rfl) ?_
              refine TL_splitd 45 rfl (fun h45 => ?_) (fun h45 => ?_)
              · refine TL_grun rfl rfl ?_
                refine TL_y rfl rfl (Y_field_addr rfl) ?_
                refine TL_grun rfl rfl ?_
                refine TL_y rfl rfl (Y_load rfl rfl) ?_
                refine TL_grun rfl rfl ?_
                refine TL_y rfl rfl (Y_field_addr rfl) ?_
                refine TL_grun rfl rfl ?_
                refine TL_y rfl rfl (Y_load rfl rfl) ?_
                refine TL_grun rfl rfl ?_
                refine TL_y rfl rfl (Y_equal rfl rfl (EqIs.bool)) ?_
                refine TL_name 50 (v' := .bool (decide (a.clears = b.clears))) rfl (congrArg Value.bool (by cases a.clears <;> cases b.clears <;> rfl)) ?_
                refine TL_y rfl rfl (Y_pick_t rfl rfl) ?_
                refine TL_chain_end rfl ?_ (by repeat (first | exact sub_refl | refine sub_ext rfl ?_)) GivesTo.g
                exact congrArg Value.bool (decide_eq_decide.2 (by simp [event_eq, *]))
              · refine TL_gskip rfl rfl rfl rfl ?_
                refine TL_gskip rfl rfl rfl rfl ?_
                refine TL_gskip rfl rfl rfl rfl ?_
                refine TL_gskip rfl rfl rfl rfl ?_
                refine TL_gskip rfl rfl rfl rfl ?_
                refine TL_y rfl rfl (Y_pick_f rfl rfl) ?_
                refine TL_chain_end rfl ?_ (by repeat (first | exact sub_refl | refine sub_ext rfl ?_)) GivesTo.g
                exact congrArg Value.bool (decide_eq_false (by simp [event_eq, *])).symm
            · refine TL_gskip rfl rfl rfl rfl ?_
              refine TL_gskip rfl rfl rfl rfl ?_
              refine TL_gskip rfl rfl rfl rfl ?_
              refine TL_gskip rfl rfl rfl rfl ?_
              refine TL_gskip rfl rfl rfl rfl ?_
              refine TL_y rfl rfl (Y_pick_f rfl rfl) ?_
              refine TL_y rfl rfl (Y_move rfl) ?_
              refine TL_gskip rfl rfl rfl rfl ?_
              refine TL_gskip rfl rfl rfl rfl ?_
              refine TL_gskip rfl rfl rfl rfl ?_
              refine TL_gskip rfl rfl rfl rfl ?_
              refine TL_gskip rfl rfl rfl rfl ?_
              refine TL_y rfl rfl (Y_pick_f rfl rfl) ?_
              refine TL_chain_end rfl ?_ (by repeat (first | exact sub_refl | refine sub_ext rfl ?_)) GivesTo.g
              exact congrArg Value.bool (decide_eq_false (by simp [event_eq, *])).symm
          · refine TL_gskip rfl rfl rfl rfl ?_
            refine TL_gskip rfl rfl rfl rfl ?_
            refine TL_gskip rfl rfl rfl rfl ?_
            refine TL_gskip rfl rfl rfl rfl ?_
            refine TL_gskip rfl rfl rfl rfl ?_
            refine TL_y rfl rfl (Y_pick_f rfl rfl) ?_
            refine TL_y rfl rfl (Y_move rfl) ?_
            refine TL_gskip rfl rfl rfl rfl ?_
            refine TL_gskip rfl rfl rfl rfl ?_
            refine TL_gskip rfl rfl rfl rfl ?_
            refine TL_gskip rfl rfl rfl rfl ?_
            refine TL_gskip rfl rfl rfl rfl ?_
            refine TL_y rfl rfl (Y_pick_f rfl rfl) ?_
            refine TL_y rfl rfl (Y_move rfl) ?_
            refine TL_gskip rfl rfl rfl rfl ?_
            refine TL_gskip rfl rfl rfl rfl ?_
            refine TL_gskip rfl rfl rfl rfl ?_
            refine TL_gskip rfl rfl rfl rfl ?_
            refine TL_gskip rfl rfl rfl rfl ?_
            refine TL_y rfl rfl (Y_pick_f rfl rfl) ?_
            refine TL_chain_end rfl ?_ (by repeat (first | exact sub_refl | refine sub_ext rfl ?_)) GivesTo.g
            exact congrArg Value.bool (decide_eq_false (by simp [event_eq, *])).symm
        · refine TL_gskip rfl rfl rfl rfl ?_
          refine TL_gskip rfl rfl rfl rfl ?_
          refine TL_gskip rfl rfl rfl rfl ?_
          refine TL_gskip rfl rfl rfl rfl ?_
          refine TL_gskip rfl rfl rfl rfl ?_
          refine TL_y rfl rfl (Y_pick_f rfl rfl) ?_
          refine TL_y rfl rfl (Y_move rfl) ?_
          refine TL_gskip rfl rfl rfl rfl ?_
          refine TL_gskip rfl rfl rfl rfl ?_
          refine TL_gskip rfl rfl rfl rfl ?_
          refine TL_gskip rfl rfl rfl rfl ?_
          refine TL_gskip rfl rfl rfl rfl ?_
          refine TL_y rfl rfl (Y_pick_f rfl rfl) ?_
          refine TL_y rfl rfl (Y_move rfl) ?_
          refine TL_gskip rfl rfl rfl rfl ?_
          refine TL_gskip rfl rfl rfl rfl ?_
          refine TL_gskip rfl rfl rfl rfl ?_
          refine TL_gskip rfl rfl rfl rfl ?_
          refine TL_gskip rfl rfl rfl rfl ?_
          refine TL_y rfl rfl (Y_pick_f rfl rfl) ?_
          refine TL_y rfl rfl (Y_move rfl) ?_
          refine TL_gskip rfl rfl rfl rfl ?_
          refine TL_gskip rfl rfl rfl rfl ?_
          refine TL_gskip rfl rfl rfl rfl ?_
          refine TL_gskip rfl rfl rfl rfl ?_
          refine TL_gskip rfl rfl rfl rfl ?_
          refine TL_y rfl rfl (Y_pick_f rfl rfl) ?_
          refine TL_chain_end rfl ?_ (by repeat (first | exact sub_refl | refine sub_ext rfl ?_)) GivesTo.g
          exact congrArg Value.bool (decide_eq_false (by simp [event_eq, *])).symm
      · refine TL_gskip rfl rfl rfl rfl ?_
        refine TL_gskip rfl rfl rfl rfl ?_
        refine TL_gskip rfl rfl rfl rfl ?_
        refine TL_gskip rfl rfl rfl rfl ?_
        refine TL_gskip rfl rfl rfl rfl ?_
        refine TL_y rfl rfl (Y_pick_f rfl rfl) ?_
        refine TL_y rfl rfl (Y_move rfl) ?_
        refine TL_gskip rfl rfl rfl rfl ?_
        refine TL_gskip rfl rfl rfl rfl ?_
        refine TL_gskip rfl rfl rfl rfl ?_
        refine TL_gskip rfl rfl rfl rfl ?_
        refine TL_gskip rfl rfl rfl rfl ?_
        refine TL_y rfl rfl (Y_pick_f rfl rfl) ?_
        refine TL_y rfl rfl (Y_move rfl) ?_
        refine TL_gskip rfl rfl rfl rfl ?_
        refine TL_gskip rfl rfl rfl rfl ?_
        refine TL_gskip rfl rfl rfl rfl ?_
        refine TL_gskip rfl rfl rfl rfl ?_
        refine TL_gskip rfl rfl rfl rfl ?_
        refine TL_y rfl rfl (Y_pick_f rfl rfl) ?_
        refine TL_y rfl rfl (Y_move rfl) ?_
        refine TL_gskip rfl rfl rfl rfl ?_
        refine TL_gskip rfl rfl rfl rfl ?_
        refine TL_gskip rfl rfl rfl rfl ?_
        refine TL_gskip rfl rfl rfl rfl ?_
        refine TL_gskip rfl rfl rfl rfl ?_
        refine TL_y rfl rfl (Y_pick_f rfl rfl) ?_
        refine TL_y rfl rfl (Y_move rfl) ?_
        refine TL_gskip rfl rfl rfl rfl ?_
        refine TL_gskip rfl rfl rfl rfl ?_
        refine TL_gskip rfl rfl rfl rfl ?_
        refine TL_gskip rfl rfl rfl rfl ?_
        refine TL_gskip rfl rfl rfl rfl ?_
        refine TL_y rfl rfl (Y_pick_f rfl rfl) ?_
        refine TL_chain_end rfl ?_ (by repeat (first | exact sub_refl | refine sub_ext rfl ?_)) GivesTo.g
        exact congrArg Value.bool (decide_eq_false (by simp [event_eq, *])).symm
    · refine TL_gskip rfl rfl rfl rfl ?_
      refine TL_gskip rfl rfl rfl rfl ?_
      refine TL_gskip rfl rfl rfl rfl ?_
      refine TL_gskip rfl rfl rfl rfl ?_
      refine TL_gskip rfl rfl rfl rfl ?_
      refine TL_y rfl rfl (Y_pick_f rfl rfl) ?_
      refine TL_y rfl rfl (Y_move rfl) ?_
      refine TL_gskip rfl rfl rfl rfl ?_
      refine TL_gskip rfl rfl rfl rfl ?_
      refine TL_gskip rfl rfl rfl rfl ?_
      refine TL_gskip rfl rfl rfl rfl ?_
      refine TL_gskip rfl rfl rfl rfl ?_
      refine TL_y rfl rfl (Y_pick_f rfl rfl) ?_
      refine TL_y rfl rfl (Y_move rfl) ?_
      refine TL_gskip rfl rfl rfl rfl ?_
      refine TL_gskip rfl rfl rfl rfl ?_
      refine TL_gskip rfl rfl rfl rfl ?_
      refine TL_gskip rfl rfl rfl rfl ?_
      refine TL_gskip rfl rfl rfl rfl ?_
      refine TL_y rfl rfl (Y_pick_f rfl rfl) ?_
      refine TL_y rfl rfl (Y_move rfl) ?_
      refine TL_gskip rfl rfl rfl rfl ?_
      refine TL_gskip rfl rfl rfl rfl ?_
      refine TL_gskip rfl rfl rfl rfl ?_
      refine TL_gskip rfl rfl rfl rfl ?_
      refine TL_gskip rfl rfl rfl rfl ?_
      refine TL_y rfl rfl (Y_pick_f rfl rfl) ?_
      refine TL_y rfl rfl (Y_move rfl) ?_
      refine TL_gskip rfl rfl rfl rfl ?_
      refine TL_gskip rfl rfl rfl rfl ?_
      refine TL_gskip rfl rfl rfl rfl ?_
      refine TL_gskip rfl rfl rfl rfl ?_
      refine TL_gskip rfl rfl rfl rfl ?_
      refine TL_y rfl rfl (Y_pick_f rfl rfl) ?_
      refine TL_y rfl rfl (Y_move rfl) ?_
      refine TL_gskip rfl rfl rfl rfl ?_
      refine TL_gskip rfl rfl rfl rfl ?_
      refine TL_gskip rfl rfl rfl rfl ?_
      refine TL_gskip rfl rfl rfl rfl ?_
      refine TL_gskip rfl rfl rfl rfl ?_
      refine TL_y rfl rfl (Y_pick_f rfl rfl) ?_
      refine TL_chain_end rfl ?_ (by repeat (first | exact sub_refl | refine sub_ext rfl ?_)) GivesTo.g
      exact congrArg Value.bool (decide_eq_false (by simp [event_eq, *])).symm
  refine TL_y rfl rfl (Y_assign rfl) ?_
  refine TL_nil ?_
  refine T_ret ?_
  exact RetG_1 (.inl rfl) rfl (ResV.tmp rfl) GivesTo.g (⟨rfl, rfl⟩)
theorem sameEvents_spec {L : List HP} {A B : Option Addr} {c d : Nat} {xs ys : List EventD} (hk : SlK L eventR A c xs) (hk2 : SlK L eventR B d ys) : Fn Try.prog 76 #[.slice A xs.length c, .slice B ys.length d] L (fun v L' => v = .bool (decide (xs = ys)) ∧ L' = L) := by
  refine Fn_enter Try.func76 rfl rfl rfl rfl ?_
  refine hk.lens fun hl => ?_
  simp only [maxEl] at hl
  refine T_region ?_
  refine TL_y rfl rfl (Y_assign rfl) ?_
  refine TL_nil ?_
  refine T_seq ?_
  refine T_region ?_
  refine TL_y rfl rfl (Y_move rfl) ?_
  refine TL_y rfl rfl (Y_len rfl) ?_
  refine TL_y rfl rfl (Y_move rfl) ?_
  refine TL_y rfl rfl (Y_len rfl) ?_
  refine TL_y rfl rfl (Y_ne rfl rfl) ?_
  refine TL_nil ?_
  refine T_if rfl (fun h10 => ?_) (fun h10 => ?_)
  · refine T_region ?_
    refine TL_y rfl rfl (Y_assign rfl) ?_
    refine TL_nil ?_
    refine T_ret ?_
    refine thenS_ret ?_
    exact RetG_1 (.inl rfl) rfl (ResV.tmp rfl) GivesTo.g (⟨by rw [decide_eq_false]; rintro rfl; exact h10 rfl, rfl⟩)
  · refine T_skip ?_
    refine thenS_normal ?_
    refine T_seq ?_
    refine T_region ?_
    refine TL_y rfl rfl (Y_assign rfl) ?_
    refine TL_nil ?_
    refine T_block ?_
    refine T_loopK (σ := Nat) [0, 1] (fun i => i ≤ xs.length ∧ xs.take i = ys.take i) (fun i kv => (5, .int .i64 (i : Int)) :: kv) (fun i => L) (fun i => xs.length - i) (0) rfl (⟨Nat.zero_le _, rfl⟩) (GivesTo.g) (sub_cons rfl (sub_cons rfl (sub_cons rfl (sub_nil)))) ?_
    intro i hi
    refine T_seq ?_
    refine T_region ?_
    refine TL_y rfl rfl (Y_move rfl) ?_
    refine TL_y rfl rfl (Y_move rfl) ?_
    refine TL_y rfl rfl (Y_len rfl) ?_
    refine TL_y rfl rfl (Y_lt rfl rfl) ?_
    refine TL_nil ?_
    refine T_if rfl (fun h14 => ?_) (fun h14 => ?_)
    · refine T_skip ?_
      refine thenS_normal ?_
      refine T_seq ?_
      refine T_block ?_
      obtain ⟨x, hx⟩ : ∃ x, xs[i]? = some x := ⟨_, List.getElem?_eq_getElem (by omega)⟩
      obtain ⟨y, hy⟩ : ∃ y, ys[i]? = some y := ⟨_, List.getElem?_eq_getElem (by omega)⟩
      refine T_at hk hx fun b1 o1 l1 ha1 => ?_
      refine T_ex fun p1 ok1 => ?_
      simp only [List.cons_append, List.nil_append]
      refine T_at hk2.tail.tail hy fun b2 o2 l2 ha2 => ?_
      refine T_ex fun p2 ok2 => ?_
      simp only [List.cons_append, List.nil_append]
      refine T_region_draw _ [0, 0, 3, 7, 0, 0, 48, 112, 255, 511] [] [(0, true), (1, true), (2, true), (3, true), (4, true), (5, true), (6, true), (7, true), (8, false), (9, true)] (by kernel_rfl) (by decide +kernel) (Gives.refl _) ?_
      refine TF_y rfl rfl (Y_move rfl) ?_
      refine TF_y rfl rfl (Y_move rfl) ?_
      refine TF_y rfl rfl (Y_index_at rfl rfl (by omega) ha1) ?_
      refine TF_y rfl rfl (Y_load_row_agg (vs := eventC x p1) rfl rfl) ?_
      refine TF_y rfl rfl (Y_move rfl) ?_
      refine TF_y rfl rfl (Y_move rfl) ?_
      refine TF_y rfl rfl (Y_index_at rfl rfl (by omega) ha2) ?_
      refine TF_y rfl rfl (Y_load_row_agg (vs := eventC y p2) rfl rfl) ?_
      refine TF_anchor rfl ?_
      refine TL_call rfl rfl (sameEvent_spec x y sln sln) ?_
      rintro _ _ ⟨rfl, rfl⟩
      refine TF_end GivesTo.g ?_
      refine TF_y rfl rfl (Y_not_d rfl) ?_
      refine TF_nil ?_
      refine T_if rfl (fun h26 => ?_) (fun h26 => ?_)
      · refine T_region ?_
        refine TL_y rfl rfl (Y_assign rfl) ?_
        refine TL_nil ?_
        refine T_ret ?_
        refine inB_ret ?_
        refine thenS_ret ?_
        refine thenS_ret ?_
        refine inB_ret ?_
        refine thenS_ret ?_
        exact RetG_1 (.inl rfl) rfl (ResV.tmp rfl) GivesTo.g (⟨by rw [decide_eq_false]; rintro rfl; rw [hx] at hy; cases hy; exact h26 rfl, rfl⟩)
      · refine T_skip ?_
        refine inB_normal ?_
        refine thenS_normal ?_
        refine T_region_last ?_
        refine TL_y rfl rfl (Y_move rfl) ?_
        refine TL_y rfl rfl (Y_add rfl rfl (by omega)) ?_
        refine TL_name 16 (v' := .int .i64 ((i + 1 : Nat) : Int)) rfl (by simp) ?_
        refine TL_y rfl rfl (Y_assign rfl) ?_
        refine TL_nil ?_
        refine thenS_normal ?_
        exact ⟨i + 1, ⟨by omega, by rw [List.take_add_one, List.take_add_one, hi.2, hx, hy, Classical.not_not.1 h26]⟩, by omega, holds_to (sub_cons rfl (sub_cons rfl (sub_cons rfl (sub_nil)))) GivesTo.g⟩
    · refine T_exit ?_
      refine thenS_exit ?_
      refine thenS_exit ?_
      refine inB_hit ?_
      refine thenS_normal ?_
      refine T_region ?_
      refine TL_y rfl rfl (Y_assign rfl) ?_
      refine TL_nil ?_
      refine T_ret ?_
      exact RetG_1 (.inl rfl) rfl (ResV.tmp rfl) GivesTo.g (⟨by rw [decide_eq_true (take_all hi.2 (by omega) (by omega))], rfl⟩)
theorem sameVoted_spec {L : List HP} {A B : Option Addr} {c d : Nat} {xs ys : List VotedD} (hk : SlK L votedR A c xs) (hk2 : SlK L votedR B d ys) : Fn Try.prog 74 #[.slice A xs.length c, .slice B ys.length d] L (fun v L' => v = .bool (decide (xs = ys)) ∧ L' = L) := by
  refine Fn_enter Try.func74 rfl rfl rfl rfl ?_
  refine hk.lens fun hl => ?_
  simp only [maxEl] at hl
  refine T_region ?_
  refine TL_y rfl rfl (Y_assign rfl) ?_
  refine TL_nil ?_
  refine T_seq ?_
  refine T_region ?_
  refine TL_y rfl rfl (Y_move rfl) ?_
  refine TL_y rfl rfl (Y_len rfl) ?_
  refine TL_y rfl rfl (Y_move rfl) ?_
  refine TL_y rfl rfl (Y_len rfl) ?_
  refine TL_y rfl rfl (Y_ne rfl rfl) ?_
  refine TL_nil ?_
  refine T_if rfl (fun h10 => ?_) (fun h10 => ?_)
  · refine T_region ?_
    refine TL_y rfl rfl (Y_assign rfl) ?_
    refine TL_nil ?_
    refine T_ret ?_
    refine thenS_ret ?_
    exact RetG_1 (.inl rfl) rfl (ResV.tmp rfl) GivesTo.g (⟨by rw [decide_eq_false]; rintro rfl; exact h10 rfl, rfl⟩)
  · refine T_skip ?_
    refine thenS_normal ?_
    refine T_seq ?_
    refine T_region ?_
    refine TL_y rfl rfl (Y_assign rfl) ?_
    refine TL_nil ?_
    refine T_block ?_
    refine T_loopK (σ := Nat) [0, 1] (fun i => i ≤ xs.length ∧ xs.take i = ys.take i) (fun i kv => (5, .int .i64 (i : Int)) :: kv) (fun i => L) (fun i => xs.length - i) (0) rfl (⟨Nat.zero_le _, rfl⟩) (GivesTo.g) (sub_cons rfl (sub_cons rfl (sub_cons rfl (sub_nil)))) ?_
    intro i hi
    refine T_seq ?_
    refine T_region ?_
    refine TL_y rfl rfl (Y_move rfl) ?_
    refine TL_y rfl rfl (Y_move rfl) ?_
    refine TL_y rfl rfl (Y_len rfl) ?_
    refine TL_y rfl rfl (Y_lt rfl rfl) ?_
    refine TL_nil ?_
    refine T_if rfl (fun h14 => ?_) (fun h14 => ?_)
    · refine T_skip ?_
      refine thenS_normal ?_
      refine T_seq ?_
      refine T_block ?_
      obtain ⟨x, hx⟩ : ∃ x, xs[i]? = some x := ⟨_, List.getElem?_eq_getElem (by omega)⟩
      obtain ⟨y, hy⟩ : ∃ y, ys[i]? = some y := ⟨_, List.getElem?_eq_getElem (by omega)⟩
      refine T_at hk hx fun b1 o1 l1 ha1 => ?_
      refine T_ex fun p1 ok1 => ?_
      simp only [List.cons_append, List.nil_append]
      refine T_at hk2.tail.tail hy fun b2 o2 l2 ha2 => ?_
      refine T_ex fun p2 ok2 => ?_
      simp only [List.cons_append, List.nil_append]
      refine T_region_draw _ [0, 0, 3, 7, 15, 0, 0, 96, 224, 480, 1023, 2047, 4095, 4095, 16383, 32767, 65535, 4095, 4095, 397311, 921599, 1970175, 4194303, 8388607, 16777215, 33554431, 33554431, 134217727, 268435455, 536870911, 33554431, 33554431, 3254779903, 7549747199, 16139681791, 34359738367, 68719476735, 137438953471] [] [(0, true), (1, true), (2, true), (3, true), (4, true), (5, true), (6, true), (7, true), (8, true), (9, true), (10, true), (11, true), (12, true), (13, true), (14, true), (15, true), (16, true), (17, true), (18, true), (19, true), (20, true), (21, true), (22, true), (23, true), (24, true), (25, true), (26, true), (27, true), (28, true), (29, true), (30, true), (31, true), (32, true), (33, true), (34, true), (35, false), (36, true), (37, true)] (by kernel_rfl) (by decide +kernel) (Gives.refl _) ?_
      refine TF_y rfl rfl (Y_move rfl) ?_
      refine TF_y rfl rfl (Y_move rfl) ?_
      refine TF_y rfl rfl (Y_index_at rfl rfl (by omega) ha1) ?_
      refine TF_y rfl rfl (Y_field_addr2 rfl) ?_
      refine TF_y rfl rfl (Y_load_row rfl rfl) ?_
      refine TF_y rfl rfl (Y_move rfl) ?_
      refine TF_y rfl rfl (Y_move rfl) ?_
      refine TF_y rfl rfl (Y_index_at rfl rfl (by omega) ha2) ?_
      refine TF_y rfl rfl (Y_field_addr2 rfl) ?_
      refine TF_y rfl rfl (Y_load_row rfl rfl) ?_
      refine TF_y rfl rfl (Y_ne rfl rfl) ?_
      refine TF_y rfl rfl (Y_move rfl) ?_
      refine TF_splitd 28 rfl (fun h28 => ?_) (fun h28 => ?_)
      · refine TF_gskip rfl rfl rfl rfl rfl ?_
        refine TF_gskip rfl rfl rfl rfl rfl ?_
        refine TF_gskip rfl rfl rfl rfl rfl ?_
        refine TF_gskip rfl rfl rfl rfl rfl ?_
        refine TF_gskip rfl rfl rfl rfl rfl ?_
        refine TF_gskip rfl rfl rfl rfl rfl ?_
        refine TF_gskip rfl rfl rfl rfl rfl ?_
        refine TF_gskip rfl rfl rfl rfl rfl ?_
        refine TF_gskip rfl rfl rfl rfl rfl ?_
        refine TF_gskip rfl rfl rfl rfl rfl ?_
        refine TF_gskip rfl rfl rfl rfl rfl ?_
        refine TF_y rfl rfl (Y_pick_t rfl rfl) ?_
        refine TF_y rfl rfl (Y_move rfl) ?_
        refine TF_gskip rfl rfl rfl rfl rfl ?_
        refine TF_gskip rfl rfl rfl rfl rfl ?_
        refine TF_gskip rfl rfl rfl rfl rfl ?_
        refine TF_gskip rfl rfl rfl rfl rfl ?_
        refine TF_gskip rfl rfl rfl rfl rfl ?_
        refine TF_gskip rfl rfl rfl rfl rfl ?_
        refine TF_gskip rfl rfl rfl rfl rfl ?_
        refine TF_gskip rfl rfl rfl rfl rfl ?_
        refine TF_gskip rfl rfl rfl rfl rfl ?_
        refine TF_gskip rfl rfl rfl rfl rfl ?_
        refine TF_anchor rfl ?_
        refine TL_gskip rfl rfl rfl rfl ?_
        refine TF_end GivesTo.g ?_
        refine TF_gskip rfl rfl rfl rfl rfl ?_
        refine TF_y rfl rfl (Y_pick_t rfl rfl) ?_
        refine TF_nil ?_
        refine T_cond_true rfl ?_
        refine T_region ?_
        refine TL_y rfl rfl (Y_assign rfl) ?_
        refine TL_nil ?_
        refine T_ret ?_
        refine inB_ret ?_
        refine thenS_ret ?_
        refine thenS_ret ?_
        refine inB_ret ?_
        refine thenS_ret ?_
        exact RetG_1 (.inl rfl) rfl (ResV.tmp rfl) GivesTo.g (⟨by rw [decide_eq_false]; rintro rfl; rw [hx] at hy; cases hy; exact h28 rfl, rfl⟩)
      · refine TF_gy rfl rfl rfl rfl (Y_move rfl) ?_
        refine TF_gy rfl rfl rfl rfl (Y_move rfl) ?_
        refine TF_gy rfl rfl rfl rfl (Y_index_at rfl rfl (by omega) ha1) ?_
        refine TF_gy rfl rfl rfl rfl (Y_field_addr2 rfl) ?_
        refine TF_gy rfl rfl rfl rfl (Y_load_row_agg (vs := [.int .i64 x.bal.1, .int .i64 x.bal.2]) rfl rfl) ?_
        refine TF_gy rfl rfl rfl rfl (Y_move rfl) ?_
        refine TF_gy rfl rfl rfl rfl (Y_move rfl) ?_
        refine TF_gy rfl rfl rfl rfl (Y_index_at rfl rfl (by omega) ha2) ?_
        refine TF_gy rfl rfl rfl rfl (Y_field_addr2 rfl) ?_
        refine TF_gy rfl rfl rfl rfl (Y_load_row_agg (vs := [.int .i64 y.bal.1, .int .i64 y.bal.2]) rfl rfl) ?_
        refine TF_gy rfl rfl rfl rfl (Y_ne_ballot (a := x.bal) (b := y.bal) rfl rfl) ?_
        refine TF_y rfl rfl (Y_pick_f rfl rfl) ?_
        refine TF_y rfl rfl (Y_move rfl) ?_
        refine TF_splitd 41 rfl (fun h41 => ?_) (fun h41 => ?_)
        · refine TF_gskip rfl rfl rfl rfl rfl ?_
          refine TF_gskip rfl rfl rfl rfl rfl ?_
          refine TF_gskip rfl rfl rfl rfl rfl ?_
          refine TF_gskip rfl rfl rfl rfl rfl ?_
          refine TF_gskip rfl rfl rfl rfl rfl ?_
          refine TF_gskip rfl rfl rfl rfl rfl ?_
          refine TF_gskip rfl rfl rfl rfl rfl ?_
          refine TF_gskip rfl rfl rfl rfl rfl ?_
          refine TF_gskip rfl rfl rfl rfl rfl ?_
          refine TF_gskip rfl rfl rfl rfl rfl ?_
          refine TF_anchor rfl ?_
          refine TL_gskip rfl rfl rfl rfl ?_
          refine TF_end GivesTo.g ?_
          refine TF_gskip rfl rfl rfl rfl rfl ?_
          refine TF_y rfl rfl (Y_pick_t rfl rfl) ?_
          refine TF_nil ?_
          refine T_cond_true rfl ?_
          refine T_region ?_
          refine TL_y rfl rfl (Y_assign rfl) ?_
          refine TL_nil ?_
          refine T_ret ?_
          refine inB_ret ?_
          refine thenS_ret ?_
          refine thenS_ret ?_
          refine inB_ret ?_
          refine thenS_ret ?_
          exact RetG_1 (.inl rfl) rfl (ResV.tmp rfl) GivesTo.g (⟨by rw [decide_eq_false]; rintro rfl; rw [hx] at hy; cases hy; exact h41 rfl, rfl⟩)
        · refine TF_gy rfl rfl rfl rfl (Y_move rfl) ?_
          refine TF_gy rfl rfl rfl rfl (Y_move rfl) ?_
          refine TF_gy rfl rfl rfl rfl (Y_index_at rfl rfl (by omega) ha1) ?_
          refine TF_gy rfl rfl rfl rfl (Y_field_addr2 rfl) ?_
          refine TF_gy rfl rfl rfl rfl (Y_load_row_agg (vs := entryC x.en p1) rfl rfl) ?_
          refine TF_gy rfl rfl rfl rfl (Y_move rfl) ?_
          refine TF_gy rfl rfl rfl rfl (Y_move rfl) ?_
          refine TF_gy rfl rfl rfl rfl (Y_index_at rfl rfl (by omega) ha2) ?_
          refine TF_gy rfl rfl rfl rfl (Y_field_addr2 rfl) ?_
          refine TF_gy rfl rfl rfl rfl (Y_load_row_agg (vs := entryC y.en p2) rfl rfl) ?_
          refine TF_anchor rfl ?_
          refine TL_grun rfl rfl ?_
          refine TL_call rfl rfl (sameEntry_spec x.en y.en sln sln) ?_
          rintro _ _ ⟨rfl, rfl⟩
          refine TF_end GivesTo.g ?_
          refine TF_gy rfl rfl rfl rfl (Y_not_d rfl) ?_
          refine TF_y rfl rfl (Y_pick_f rfl rfl) ?_
          refine TF_nil ?_
          refine T_if rfl (fun h54 => ?_) (fun h54 => ?_)
          · refine T_region ?_
            refine TL_y rfl rfl (Y_assign rfl) ?_
            refine TL_nil ?_
            refine T_ret ?_
            refine inB_ret ?_
            refine thenS_ret ?_
            refine thenS_ret ?_
            refine inB_ret ?_
            refine thenS_ret ?_
            exact RetG_1 (.inl rfl) rfl (ResV.tmp rfl) GivesTo.g (⟨by rw [decide_eq_false]; rintro rfl; rw [hx] at hy; cases hy; exact h54 rfl, rfl⟩)
          · refine T_skip ?_
            refine inB_normal ?_
            refine thenS_normal ?_
            refine T_region_last ?_
            refine TL_y rfl rfl (Y_move rfl) ?_
            refine TL_y rfl rfl (Y_add rfl rfl (by omega)) ?_
            refine TL_name 16 (v' := .int .i64 ((i + 1 : Nat) : Int)) rfl (by simp) ?_
            refine TL_y rfl rfl (Y_assign rfl) ?_
            refine TL_nil ?_
            refine thenS_normal ?_
            exact ⟨i + 1, ⟨by omega, by rw [List.take_add_one, List.take_add_one, hi.2, hx, hy, show x = y from voted_eq.2 ⟨Classical.not_not.1 h28, Classical.not_not.1 h41, Classical.not_not.1 h54⟩]⟩, by omega, holds_to (sub_cons rfl (sub_cons rfl (sub_cons rfl (sub_nil)))) GivesTo.g⟩
    · refine T_exit ?_
      refine thenS_exit ?_
      refine thenS_exit ?_
      refine inB_hit ?_
      refine thenS_normal ?_
      refine T_region ?_
      refine TL_y rfl rfl (Y_assign rfl) ?_
      refine TL_nil ?_
      refine T_ret ?_
      exact RetG_1 (.inl rfl) rfl (ResV.tmp rfl) GivesTo.g (⟨by rw [decide_eq_true (take_all hi.2 (by omega) (by omega))], rfl⟩)
theorem sameMsg_spec {L : List HP} (a b : MsgD) (p q : MsgP) (hk : MsgK L a p) (hk2 : MsgK L b q) : Fn Try.prog 47 #[.agg (List.toArray (msgC a p)), .agg (List.toArray (msgC b q))] L (fun v L' => v = .bool (decide (a = b)) ∧ L' = L) := by
  refine Fn_enter Try.func47 rfl rfl rfl rfl ?_
  refine T_region ?_
  refine TL_box rfl rfl rfl ?_
  intro b2
  refine TL_box rfl rfl rfl ?_
  intro b3
  refine TL_y rfl rfl (Y_assign rfl) ?_
  refine TL_nil ?_
  refine T_region ?_
  refine TL_y rfl rfl (Y_field_addr rfl) ?_
  refine TL_y rfl rfl (Y_load rfl rfl) ?_
  refine TL_y rfl rfl (Y_field_addr rfl) ?_
  refine TL_y rfl rfl (Y_load rfl rfl) ?_
  refine TL_both 64 72 (a = b) ?_ ?_
  · refine TL_y rfl rfl (Y_eq rfl rfl) ?_
    refine TL_y rfl rfl (Y_move rfl) ?_
    refine TL_splitd 10 rfl (fun h10 => ?_) (fun h10 => ?_)
    · refine TL_grun rfl rfl ?_
      refine TL_y rfl rfl (Y_field_addr rfl) ?_
      refine TL_grun rfl rfl ?_
      refine TL_y rfl rfl (Y_load rfl rfl) ?_
      refine TL_grun rfl rfl ?_
      refine TL_y rfl rfl (Y_field_addr rfl) ?_
      refine TL_grun rfl rfl ?_
      refine TL_y rfl rfl (Y_load rfl rfl) ?_
      refine TL_grun rfl rfl ?_
      refine TL_y rfl rfl (Y_eq rfl rfl) ?_
      refine TL_y rfl rfl (Y_pick_t rfl rfl) ?_
      refine TL_y rfl rfl (Y_move rfl) ?_
      refine TL_splitd 17 rfl (fun h17 => ?_) (fun h17 => ?_)
      · refine TL_grun rfl rfl ?_
        refine TL_y rfl rfl (Y_field_addr rfl) ?_
        refine TL_grun rfl rfl ?_
        refine TL_y rfl rfl (Y_load rfl rfl) ?_
        refine TL_grun rfl rfl ?_
        refine TL_y rfl rfl (Y_field_addr rfl) ?_
        refine TL_grun rfl rfl ?_
        refine TL_y rfl rfl (Y_load rfl rfl) ?_
        refine TL_grun rfl rfl ?_
        refine TL_y rfl rfl (Y_eq rfl rfl) ?_
        refine TL_y rfl rfl (Y_pick_t rfl rfl) ?_
        refine TL_y rfl rfl (Y_move rfl) ?_
        refine TL_splitd 24 rfl (fun h24 => ?_) (fun h24 => ?_)
        · refine TL_grun rfl rfl ?_
          refine TL_y rfl rfl (Y_field_addr rfl) ?_
          refine TL_grun rfl rfl ?_
          refine TL_y rfl rfl (Y_load_agg rfl rfl) ?_
          refine TL_grun rfl rfl ?_
          refine TL_y rfl rfl (Y_field_addr rfl) ?_
          refine TL_grun rfl rfl ?_
          refine TL_y rfl rfl (Y_load_agg rfl rfl) ?_
          refine TL_grun rfl rfl ?_
          refine TL_y rfl rfl (Y_eq_ballot (a := a.bal) (b := b.bal) rfl rfl) ?_
          refine TL_y rfl rfl (Y_pick_t rfl rfl) ?_
          refine TL_y rfl rfl (Y_move rfl) ?_
          refine TL_splitd 31 rfl (fun h31 => ?_) (fun h31 => ?_)
          · refine TL_grun rfl rfl ?_
            refine TL_y rfl rfl (Y_field_addr rfl) ?_
            refine TL_grun rfl rfl ?_
            refine TL_y rfl rfl (Y_load rfl rfl) ?_
            refine TL_grun rfl rfl ?_
            refine TL_y rfl rfl (Y_field_addr rfl) ?_
            refine TL_grun rfl rfl ?_
            refine TL_y rfl rfl (Y_load rfl rfl) ?_
            refine TL_grun rfl rfl ?_
            refine TL_y rfl rfl (Y_eq rfl rfl) ?_
            refine TL_y rfl rfl (Y_pick_t rfl rfl) ?_
            refine TL_y rfl rfl (Y_move rfl) ?_
            refine TL_splitd 38 rfl (fun h38 => ?_) (fun h38 => ?_)
            · refine TL_grun rfl rfl ?_
              refine TL_y rfl rfl (Y_field_addr rfl) ?_
              refine TL_grun rfl rfl ?_
              refine TL_y rfl rfl (Y_load_agg rfl rfl) ?_
              refine TL_grun rfl rfl ?_
              refine TL_y rfl rfl (Y_field_addr rfl) ?_
              refine TL_grun rfl rfl ?_
              refine TL_y rfl rfl (Y_load_agg rfl rfl) ?_
              refine TL_grun rfl rfl ?_
              refine TL_call rfl rfl (sameEntry_spec a.en b.en hk.tail.tail.cut.n hk2.tail.tail.cut.n) ?_
              rintro _ _ ⟨rfl, rfl⟩
              refine TL_y rfl rfl (Y_pick_t rfl rfl) ?_
              refine TL_y rfl rfl (Y_move rfl) ?_
              refine TL_splitd 45 rfl (fun h45 => ?_) (fun h45 => ?_)
              · refine TL_grun rfl rfl ?_
                refine TL_y rfl rfl (Y_field_addr rfl) ?_
                refine TL_grun rfl rfl ?_
                refine TL_y rfl rfl (Y_load rfl rfl) ?_
                refine TL_grun rfl rfl ?_
                refine TL_y rfl rfl (Y_field_addr rfl) ?_
                refine TL_grun rfl rfl ?_
                refine TL_y rfl rfl (Y_load rfl rfl) ?_
                refine TL_grun rfl rfl ?_
                refine TL_call rfl rfl (sameVoted_spec hk.tail.tail.voted hk2.tail.tail.voted) ?_
                rintro _ _ ⟨rfl, rfl⟩
                refine TL_y rfl rfl (Y_pick_t rfl rfl) ?_
                refine TL_y rfl rfl (Y_move rfl) ?_
                refine TL_splitd 52 rfl (fun h52 => ?_) (fun h52 => ?_)
                · refine TL_grun rfl rfl ?_
                  refine TL_y rfl rfl (Y_field_addr rfl) ?_
                  refine TL_grun rfl rfl ?_
                  refine TL_y rfl rfl (Y_load rfl rfl) ?_
                  refine TL_grun rfl rfl ?_
                  refine TL_y rfl rfl (Y_field_addr rfl) ?_
                  refine TL_grun rfl rfl ?_
                  refine TL_y rfl rfl (Y_load rfl rfl) ?_
                  refine TL_grun rfl rfl ?_
                  refine TL_call rfl rfl (sameVector_spec hk.tail.tail.seen.n hk2.tail.tail.seen.n) ?_
                  rintro _ _ ⟨rfl, rfl⟩
                  refine TL_y rfl rfl (Y_pick_t rfl rfl) ?_
                  refine TL_y rfl rfl (Y_move rfl) ?_
                  refine TL_splitd 59 rfl (fun h59 => ?_) (fun h59 => ?_)
                  · refine TL_grun rfl rfl ?_
                    refine TL_y rfl rfl (Y_field_addr rfl) ?_
                    refine TL_grun rfl rfl ?_
                    refine TL_y rfl rfl (Y_load rfl rfl) ?_
                    refine TL_grun rfl rfl ?_
                    refine TL_y rfl rfl (Y_field_addr rfl) ?_
                    refine TL_grun rfl rfl ?_
                    refine TL_y rfl rfl (Y_load rfl rfl) ?_
                    refine TL_grun rfl rfl ?_
                    refine TL_call rfl rfl (sameEvents_spec hk.tail.tail.events hk2.tail.tail.events) ?_
                    rintro _ _ ⟨rfl, rfl⟩
                    refine TL_y rfl rfl (Y_pick_t rfl rfl) ?_
                    refine TL_y rfl rfl (Y_move rfl) ?_
                    refine TL_splitd 66 rfl (fun h66 => ?_) (fun h66 => ?_)
                    · refine TL_grun rfl rfl ?_
                      refine TL_y rfl rfl (Y_field_addr rfl) ?_
                      refine TL_grun rfl rfl ?_
                      refine TL_y rfl rfl (Y_load rfl rfl) ?_
                      refine TL_grun rfl rfl ?_
                      refine TL_y rfl rfl (Y_field_addr rfl) ?_
                      refine TL_grun rfl rfl ?_
                      refine TL_y rfl rfl (Y_load rfl rfl) ?_
                      refine TL_grun rfl rfl ?_
                      refine TL_y rfl rfl (Y_eq rfl rfl) ?_
                      refine TL_y rfl rfl (Y_pick_t rfl rfl) ?_
                      refine TL_chain_end rfl ?_ (by repeat (first | exact sub_refl | refine sub_ext rfl ?_)) GivesTo.g
                      exact congrArg Value.bool (decide_eq_decide.2 (by simp [msg_eq, *]))
                    · refine TL_gskip rfl rfl rfl rfl ?_
                      refine TL_gskip rfl rfl rfl rfl ?_
                      refine TL_gskip rfl rfl rfl rfl ?_
                      refine TL_gskip rfl rfl rfl rfl ?_
                      refine TL_gskip rfl rfl rfl rfl ?_
                      refine TL_y rfl rfl (Y_pick_f rfl rfl) ?_
                      refine TL_chain_end rfl ?_ (by repeat (first | exact sub_refl | refine sub_ext rfl ?_)) GivesTo.g
                      exact congrArg Value.bool (decide_eq_false (by simp [msg_eq, *])).symm
                  · refine TL_gskip rfl rfl rfl rfl ?_
                    refine TL_gskip rfl rfl rfl rfl ?_
                    refine TL_gskip rfl rfl rfl rfl ?_
                    refine TL_gskip rfl rfl rfl rfl ?_
                    refine TL_gskip rfl rfl rfl rfl ?_
                    refine TL_y rfl rfl (Y_pick_f rfl rfl) ?_
                    refine TL_y rfl rfl (Y_move rfl) ?_
                    refine TL_gskip rfl rfl rfl rfl ?_
                    refine TL_gskip rfl rfl rfl rfl ?_
                    refine TL_gskip rfl rfl rfl rfl ?_
                    refine TL_gskip rfl rfl rfl rfl ?_
                    refine TL_gskip rfl rfl rfl rfl ?_
                    refine TL_y rfl rfl (Y_pick_f rfl rfl) ?_
                    refine TL_chain_end rfl ?_ (by repeat (first | exact sub_refl | refine sub_ext rfl ?_)) GivesTo.g
                    exact congrArg Value.bool (decide_eq_false (by simp [msg_eq, *])).symm
                · refine TL_gskip rfl rfl rfl rfl ?_
                  refine TL_gskip rfl rfl rfl rfl ?_
                  refine TL_gskip rfl rfl rfl rfl ?_
                  refine TL_gskip rfl rfl rfl rfl ?_
                  refine TL_gskip rfl rfl rfl rfl ?_
                  refine TL_y rfl rfl (Y_pick_f rfl rfl) ?_
                  refine TL_y rfl rfl (Y_move rfl) ?_
                  refine TL_gskip rfl rfl rfl rfl ?_
                  refine TL_gskip rfl rfl rfl rfl ?_
                  refine TL_gskip rfl rfl rfl rfl ?_
                  refine TL_gskip rfl rfl rfl rfl ?_
                  refine TL_gskip rfl rfl rfl rfl ?_
                  refine TL_y rfl rfl (Y_pick_f rfl rfl) ?_
                  refine TL_y rfl rfl (Y_move rfl) ?_
                  refine TL_gskip rfl rfl rfl rfl ?_
                  refine TL_gskip rfl rfl rfl rfl ?_
                  refine TL_gskip rfl rfl rfl rfl ?_
                  refine TL_gskip rfl rfl rfl rfl ?_
                  refine TL_gskip rfl rfl rfl rfl ?_
                  refine TL_y rfl rfl (Y_pick_f rfl rfl) ?_
                  refine TL_chain_end rfl ?_ (by repeat (first | exact sub_refl | refine sub_ext rfl ?_)) GivesTo.g
                  exact congrArg Value.bool (decide_eq_false (by simp [msg_eq, *])).symm
              · refine TL_gskip rfl rfl rfl rfl ?_
                refine TL_gskip rfl rfl rfl rfl ?_
                refine TL_gskip rfl rfl rfl rfl ?_
                refine TL_gskip rfl rfl rfl rfl ?_
                refine TL_gskip rfl rfl rfl rfl ?_
                refine TL_y rfl rfl (Y_pick_f rfl rfl) ?_
                refine TL_y rfl rfl (Y_move rfl) ?_
                refine TL_gskip rfl rfl rfl rfl ?_
                refine TL_gskip rfl rfl rfl rfl ?_
                refine TL_gskip rfl rfl rfl rfl ?_
                refine TL_gskip rfl rfl rfl rfl ?_
                refine TL_gskip rfl rfl rfl rfl ?_
                refine TL_y rfl rfl (Y_pick_f rfl rfl) ?_
                refine TL_y rfl rfl (Y_move rfl) ?_
                refine TL_gskip rfl rfl rfl rfl ?_
                refine TL_gskip rfl rfl rfl rfl ?_
                refine TL_gskip rfl rfl rfl rfl ?_
                refine TL_gskip rfl rfl rfl rfl ?_
                refine TL_gskip rfl rfl rfl rfl ?_
                refine TL_y rfl rfl (Y_pick_f rfl rfl) ?_
                refine TL_y rfl rfl (Y_move rfl) ?_
                refine TL_gskip rfl rfl rfl rfl ?_
                refine TL_gskip rfl rfl rfl rfl ?_
                refine TL_gskip rfl rfl rfl rfl ?_
                refine TL_gskip rfl rfl rfl rfl ?_
                refine TL_gskip rfl rfl rfl rfl ?_
                refine TL_y rfl rfl (Y_pick_f rfl rfl) ?_
                refine TL_chain_end rfl ?_ (by repeat (first | exact sub_refl | refine sub_ext rfl ?_)) GivesTo.g
                exact congrArg Value.bool (decide_eq_false (by simp [msg_eq, *])).symm
            · refine TL_gskip rfl rfl rfl rfl ?_
              refine TL_gskip rfl rfl rfl rfl ?_
              refine TL_gskip rfl rfl rfl rfl ?_
              refine TL_gskip rfl rfl rfl rfl ?_
              refine TL_gskip rfl rfl rfl rfl ?_
              refine TL_y rfl rfl (Y_pick_f rfl rfl) ?_
              refine TL_y rfl rfl (Y_move rfl) ?_
              refine TL_gskip rfl rfl rfl rfl ?_
              refine TL_gskip rfl rfl rfl rfl ?_
              refine TL_gskip rfl rfl rfl rfl ?_
              refine TL_gskip rfl rfl rfl rfl ?_
              refine TL_gskip rfl rfl rfl rfl ?_
              refine TL_y rfl rfl (Y_pick_f rfl rfl) ?_
              refine TL_y rfl rfl (Y_move rfl) ?_
              refine TL_gskip rfl rfl rfl rfl ?_
              refine TL_gskip rfl rfl rfl rfl ?_
              refine TL_gskip rfl rfl rfl rfl ?_
              refine TL_gskip rfl rfl rfl rfl ?_
              refine TL_gskip rfl rfl rfl rfl ?_
              refine TL_y rfl rfl (Y_pick_f rfl rfl) ?_
              refine TL_y rfl rfl (Y_move rfl) ?_
              refine TL_gskip rfl rfl rfl rfl ?_
              refine TL_gskip rfl rfl rfl rfl ?_
              refine TL_gskip rfl rfl rfl rfl ?_
              refine TL_gskip rfl rfl rfl rfl ?_
              refine TL_gskip rfl rfl rfl rfl ?_
              refine TL_y rfl rfl (Y_pick_f rfl rfl) ?_
              refine TL_y rfl rfl (Y_move rfl) ?_
              refine TL_gskip rfl rfl rfl rfl ?_
              refine TL_gskip rfl rfl rfl rfl ?_
              refine TL_gskip rfl rfl rfl rfl ?_
              refine TL_gskip rfl rfl rfl rfl ?_
              refine TL_gskip rfl rfl rfl rfl ?_
              refine TL_y rfl rfl (Y_pick_f rfl rfl) ?_
              refine TL_chain_end rfl ?_ (by repeat (first | exact sub_refl | refine sub_ext rfl ?_)) GivesTo.g
              exact congrArg Value.bool (decide_eq_false (by simp [msg_eq, *])).symm
          · refine TL_gskip rfl rfl rfl rfl ?_
            refine TL_gskip rfl rfl rfl rfl ?_
            refine TL_gskip rfl rfl rfl rfl ?_
            refine TL_gskip rfl rfl rfl rfl ?_
            refine TL_gskip rfl rfl rfl rfl ?_
            refine TL_y rfl rfl (Y_pick_f rfl rfl) ?_
            refine TL_y rfl rfl (Y_move rfl) ?_
            refine TL_gskip rfl rfl rfl rfl ?_
            refine TL_gskip rfl rfl rfl rfl ?_
            refine TL_gskip rfl rfl rfl rfl ?_
            refine TL_gskip rfl rfl rfl rfl ?_
            refine TL_gskip rfl rfl rfl rfl ?_
            refine TL_y rfl rfl (Y_pick_f rfl rfl) ?_
            refine TL_y rfl rfl (Y_move rfl) ?_
            refine TL_gskip rfl rfl rfl rfl ?_
            refine TL_gskip rfl rfl rfl rfl ?_
            refine TL_gskip rfl rfl rfl rfl ?_
            refine TL_gskip rfl rfl rfl rfl ?_
            refine TL_gskip rfl rfl rfl rfl ?_
            refine TL_y rfl rfl (Y_pick_f rfl rfl) ?_
            refine TL_y rfl rfl (Y_move rfl) ?_
            refine TL_gskip rfl rfl rfl rfl ?_
            refine TL_gskip rfl rfl rfl rfl ?_
            refine TL_gskip rfl rfl rfl rfl ?_
            refine TL_gskip rfl rfl rfl rfl ?_
            refine TL_gskip rfl rfl rfl rfl ?_
            refine TL_y rfl rfl (Y_pick_f rfl rfl) ?_
            refine TL_y rfl rfl (Y_move rfl) ?_
            refine TL_gskip rfl rfl rfl rfl ?_
            refine TL_gskip rfl rfl rfl rfl ?_
            refine TL_gskip rfl rfl rfl rfl ?_
            refine TL_gskip rfl rfl rfl rfl ?_
            refine TL_gskip rfl rfl rfl rfl ?_
            refine TL_y rfl rfl (Y_pick_f rfl rfl) ?_
            refine TL_y rfl rfl (Y_move rfl) ?_
            refine TL_gskip rfl rfl rfl rfl ?_
            refine TL_gskip rfl rfl rfl rfl ?_
            refine TL_gskip rfl rfl rfl rfl ?_
            refine TL_gskip rfl rfl rfl rfl ?_
            refine TL_gskip rfl rfl rfl rfl ?_
            refine TL_y rfl rfl (Y_pick_f rfl rfl) ?_
            refine TL_chain_end rfl ?_ (by repeat (first | exact sub_refl | refine sub_ext rfl ?_)) GivesTo.g
            exact congrArg Value.bool (decide_eq_false (by simp [msg_eq, *])).symm
        · refine TL_gskip rfl rfl rfl rfl ?_
          refine TL_gskip rfl rfl rfl rfl ?_
          refine TL_gskip rfl rfl rfl rfl ?_
          refine TL_gskip rfl rfl rfl rfl ?_
          refine TL_gskip rfl rfl rfl rfl ?_
          refine TL_y rfl rfl (Y_pick_f rfl rfl) ?_
          refine TL_y rfl rfl (Y_move rfl) ?_
          refine TL_gskip rfl rfl rfl rfl ?_
          refine TL_gskip rfl rfl rfl rfl ?_
          refine TL_gskip rfl rfl rfl rfl ?_
          refine TL_gskip rfl rfl rfl rfl ?_
          refine TL_gskip rfl rfl rfl rfl ?_
          refine TL_y rfl rfl (Y_pick_f rfl rfl) ?_
          refine TL_y rfl rfl (Y_move rfl) ?_
          refine TL_gskip rfl rfl rfl rfl ?_
          refine TL_gskip rfl rfl rfl rfl ?_
          refine TL_gskip rfl rfl rfl rfl ?_
          refine TL_gskip rfl rfl rfl rfl ?_
          refine TL_gskip rfl rfl rfl rfl ?_
          refine TL_y rfl rfl (Y_pick_f rfl rfl) ?_
          refine TL_y rfl rfl (Y_move rfl) ?_
          refine TL_gskip rfl rfl rfl rfl ?_
          refine TL_gskip rfl rfl rfl rfl ?_
          refine TL_gskip rfl rfl rfl rfl ?_
          refine TL_gskip rfl rfl rfl rfl ?_
          refine TL_gskip rfl rfl rfl rfl ?_
          refine TL_y rfl rfl (Y_pick_f rfl rfl) ?_
          refine TL_y rfl rfl (Y_move rfl) ?_
          refine TL_gskip rfl rfl rfl rfl ?_
          refine TL_gskip rfl rfl rfl rfl ?_
          refine TL_gskip rfl rfl rfl rfl ?_
          refine TL_gskip rfl rfl rfl rfl ?_
          refine TL_gskip rfl rfl rfl rfl ?_
          refine TL_y rfl rfl (Y_pick_f rfl rfl) ?_
          refine TL_y rfl rfl (Y_move rfl) ?_
          refine TL_gskip rfl rfl rfl rfl ?_
          refine TL_gskip rfl rfl rfl rfl ?_
          refine TL_gskip rfl rfl rfl rfl ?_
          refine TL_gskip rfl rfl rfl rfl ?_
          refine TL_gskip rfl rfl rfl rfl ?_
          refine TL_y rfl rfl (Y_pick_f rfl rfl) ?_
          refine TL_y rfl rfl (Y_move rfl) ?_
          refine TL_gskip rfl rfl rfl rfl ?_
          refine TL_gskip rfl rfl rfl rfl ?_
          refine TL_gskip rfl rfl rfl rfl ?_
          refine TL_gskip rfl rfl rfl rfl ?_
          refine TL_gskip rfl rfl rfl rfl ?_
          refine TL_y rfl rfl (Y_pick_f rfl rfl) ?_
          refine TL_chain_end rfl ?_ (by repeat (first | exact sub_refl | refine sub_ext rfl ?_)) GivesTo.g
          exact congrArg Value.bool (decide_eq_false (by simp [msg_eq, *])).symm
      · refine TL_gskip rfl rfl rfl rfl ?_
        refine TL_gskip rfl rfl rfl rfl ?_
        refine TL_gskip rfl rfl rfl rfl ?_
        refine TL_gskip rfl rfl rfl rfl ?_
        refine TL_gskip rfl rfl rfl rfl ?_
        refine TL_y rfl rfl (Y_pick_f rfl rfl) ?_
        refine TL_y rfl rfl (Y_move rfl) ?_
        refine TL_gskip rfl rfl rfl rfl ?_
        refine TL_gskip rfl rfl rfl rfl ?_
        refine TL_gskip rfl rfl rfl rfl ?_
        refine TL_gskip rfl rfl rfl rfl ?_
        refine TL_gskip rfl rfl rfl rfl ?_
        refine TL_y rfl rfl (Y_pick_f rfl rfl) ?_
        refine TL_y rfl rfl (Y_move rfl) ?_
        refine TL_gskip rfl rfl rfl rfl ?_
        refine TL_gskip rfl rfl rfl rfl ?_
        refine TL_gskip rfl rfl rfl rfl ?_
        refine TL_gskip rfl rfl rfl rfl ?_
        refine TL_gskip rfl rfl rfl rfl ?_
        refine TL_y rfl rfl (Y_pick_f rfl rfl) ?_
        refine TL_y rfl rfl (Y_move rfl) ?_
        refine TL_gskip rfl rfl rfl rfl ?_
        refine TL_gskip rfl rfl rfl rfl ?_
        refine TL_gskip rfl rfl rfl rfl ?_
        refine TL_gskip rfl rfl rfl rfl ?_
        refine TL_gskip rfl rfl rfl rfl ?_
        refine TL_y rfl rfl (Y_pick_f rfl rfl) ?_
        refine TL_y rfl rfl (Y_move rfl) ?_
        refine TL_gskip rfl rfl rfl rfl ?_
        refine TL_gskip rfl rfl rfl rfl ?_
        refine TL_gskip rfl rfl rfl rfl ?_
        refine TL_gskip rfl rfl rfl rfl ?_
        refine TL_gskip rfl rfl rfl rfl ?_
        refine TL_y rfl rfl (Y_pick_f rfl rfl) ?_
        refine TL_y rfl rfl (Y_move rfl) ?_
        refine TL_gskip rfl rfl rfl rfl ?_
        refine TL_gskip rfl rfl rfl rfl ?_
        refine TL_gskip rfl rfl rfl rfl ?_
        refine TL_gskip rfl rfl rfl rfl ?_
        refine TL_gskip rfl rfl rfl rfl ?_
        refine TL_y rfl rfl (Y_pick_f rfl rfl) ?_
        refine TL_y rfl rfl (Y_move rfl) ?_
        refine TL_gskip rfl rfl rfl rfl ?_
        refine TL_gskip rfl rfl rfl rfl ?_
        refine TL_gskip rfl rfl rfl rfl ?_
        refine TL_gskip rfl rfl rfl rfl ?_
        refine TL_gskip rfl rfl rfl rfl ?_
        refine TL_y rfl rfl (Y_pick_f rfl rfl) ?_
        refine TL_y rfl rfl (Y_move rfl) ?_
        refine TL_gskip rfl rfl rfl rfl ?_
        refine TL_gskip rfl rfl rfl rfl ?_
        refine TL_gskip rfl rfl rfl rfl ?_
        refine TL_gskip rfl rfl rfl rfl ?_
        refine TL_gskip rfl rfl rfl rfl ?_
        refine TL_y rfl rfl (Y_pick_f rfl rfl) ?_
        refine TL_chain_end rfl ?_ (by repeat (first | exact sub_refl | refine sub_ext rfl ?_)) GivesTo.g
        exact congrArg Value.bool (decide_eq_false (by simp [msg_eq, *])).symm
    · refine TL_gskip rfl rfl rfl rfl ?_
      refine TL_gskip rfl rfl rfl rfl ?_
      refine TL_gskip rfl rfl rfl rfl ?_
      refine TL_gskip rfl rfl rfl rfl ?_
      refine TL_gskip rfl rfl rfl rfl ?_
      refine TL_y rfl rfl (Y_pick_f rfl rfl) ?_
      refine TL_y rfl rfl (Y_move rfl) ?_
      refine TL_gskip rfl rfl rfl rfl ?_
      refine TL_gskip rfl rfl rfl rfl ?_
      refine TL_gskip rfl rfl rfl rfl ?_
      refine TL_gskip rfl rfl rfl rfl ?_
      refine TL_gskip rfl rfl rfl rfl ?_
      refine TL_y rfl rfl (Y_pick_f rfl rfl) ?_
      refine TL_y rfl rfl (Y_move rfl) ?_
      refine TL_gskip rfl rfl rfl rfl ?_
      refine TL_gskip rfl rfl rfl rfl ?_
      refine TL_gskip rfl rfl rfl rfl ?_
      refine TL_gskip rfl rfl rfl rfl ?_
      refine TL_gskip rfl rfl rfl rfl ?_
      refine TL_y rfl rfl (Y_pick_f rfl rfl) ?_
      refine TL_y rfl rfl (Y_move rfl) ?_
      refine TL_gskip rfl rfl rfl rfl ?_
      refine TL_gskip rfl rfl rfl rfl ?_
      refine TL_gskip rfl rfl rfl rfl ?_
      refine TL_gskip rfl rfl rfl rfl ?_
      refine TL_gskip rfl rfl rfl rfl ?_
      refine TL_y rfl rfl (Y_pick_f rfl rfl) ?_
      refine TL_y rfl rfl (Y_move rfl) ?_
      refine TL_gskip rfl rfl rfl rfl ?_
      refine TL_gskip rfl rfl rfl rfl ?_
      refine TL_gskip rfl rfl rfl rfl ?_
      refine TL_gskip rfl rfl rfl rfl ?_
      refine TL_gskip rfl rfl rfl rfl ?_
      refine TL_y rfl rfl (Y_pick_f rfl rfl) ?_
      refine TL_y rfl rfl (Y_move rfl) ?_
      refine TL_gskip rfl rfl rfl rfl ?_
      refine TL_gskip rfl rfl rfl rfl ?_
      refine TL_gskip rfl rfl rfl rfl ?_
      refine TL_gskip rfl rfl rfl rfl ?_
      refine TL_gskip rfl rfl rfl rfl ?_
      refine TL_y rfl rfl (Y_pick_f rfl rfl) ?_
      refine TL_y rfl rfl (Y_move rfl) ?_
      refine TL_gskip rfl rfl rfl rfl ?_
      refine TL_gskip rfl rfl rfl rfl ?_
      refine TL_gskip rfl rfl rfl rfl ?_
      refine TL_gskip rfl rfl rfl rfl ?_
      refine TL_gskip rfl rfl rfl rfl ?_
      refine TL_y rfl rfl (Y_pick_f rfl rfl) ?_
      refine TL_y rfl rfl (Y_move rfl) ?_
      refine TL_gskip rfl rfl rfl rfl ?_
      refine TL_gskip rfl rfl rfl rfl ?_
      refine TL_gskip rfl rfl rfl rfl ?_
      refine TL_gskip rfl rfl rfl rfl ?_
      refine TL_gskip rfl rfl rfl rfl ?_
      refine TL_y rfl rfl (Y_pick_f rfl rfl) ?_
      refine TL_y rfl rfl (Y_move rfl) ?_
      refine TL_gskip rfl rfl rfl rfl ?_
      refine TL_gskip rfl rfl rfl rfl ?_
      refine TL_gskip rfl rfl rfl rfl ?_
      refine TL_gskip rfl rfl rfl rfl ?_
      refine TL_gskip rfl rfl rfl rfl ?_
      refine TL_y rfl rfl (Y_pick_f rfl rfl) ?_
      refine TL_chain_end rfl ?_ (by repeat (first | exact sub_refl | refine sub_ext rfl ?_)) GivesTo.g
      exact congrArg Value.bool (decide_eq_false (by simp [msg_eq, *])).symm
  refine TL_y rfl rfl (Y_assign rfl) ?_
  refine TL_nil ?_
  refine T_ret ?_
  exact RetG_1 (.inl rfl) rfl (ResV.tmp rfl) GivesTo.g (⟨rfl, rfl⟩)
end Go.SL
