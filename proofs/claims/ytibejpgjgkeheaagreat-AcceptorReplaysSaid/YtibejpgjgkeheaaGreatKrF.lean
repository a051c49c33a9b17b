/- What the laws of this claim need, together: the logic, data in memory, the walks of functions. -/
import Derived.Test.YtibejpgjgkeheaaGreatKrE
set_option linter.unusedVariables false
set_option linter.unusedSimpArgs false
set_option linter.unusedVariables false
set_option linter.unusedSimpArgs false
namespace Go.SL
open Go Go.Proofs
abbrev raF (b : Nat) (s : AccD) (p : Option Addr × Nat) : List HP := [cells b [.int .i64 s.node, .int .i64 s.prom.1, .int .i64 s.prom.2, .slice p.1 s.V.length p.2] 41, osl votedR 64 p.1 p.2 s.V]
def ra (b : Nat) (s : AccD) : HP := exH (raF b s)
instance findK_ra {L : List HP} {b : Nat} {s : AccD} : FindK (ra b s :: L) b (ra b s) L := ⟨Gives.refl _⟩
section
variable {r : Option Nat} {n : Nat} {P : Program} {ops : Array Oper} {rest : List Oper} {K : St → Prop} {Q : Exit → St → Prop} {D : List Deferred} {E : Env} {L L' : List HP} {b : Nat} {s : AccD}
theorem T_ra {c : Code} (h : ∀ A c', s.V.length ≤ c' ∧ s.V.length ≤ maxEl → T r n P c ⟨D, E, cells b [.int .i64 s.node, .int .i64 s.prom.1, .int .i64 s.prom.2, .slice A s.V.length c'] 41 :: osl votedR 64 A c' s.V :: L⟩ Q) : T r n P c ⟨D, E, ra b s :: L⟩ Q := T_exH (f := raF b s) fun p => T_fact (Knows.tail osl_len) (fun _ h => h) (h p.1 p.2)
theorem TL_ra (h : ∀ A c', s.V.length ≤ c' ∧ s.V.length ≤ maxEl → TL r n P ops rest ⟨D, E, cells b [.int .i64 s.node, .int .i64 s.prom.1, .int .i64 s.prom.2, .slice A s.V.length c'] 41 :: osl votedR 64 A c' s.V :: L⟩ K) : TL r n P ops rest ⟨D, E, ra b s :: L⟩ K := TL_exH (f := raF b s) fun p => TL_fact (Knows.tail osl_len) (fun _ h => h) (h p.1 p.2)
theorem ra_close {A : Option Addr} {c : Nat} {L1 L2 : List HP} (b : Nat) (s : AccD) [h1 : FindC L b [.int .i64 s.node, .int .i64 s.prom.1, .int .i64 s.prom.2, .slice A s.V.length c] 41 L1] [h2 : FindO L1 A c VotedD votedR 64 s.V L2] : Gives L (ra b s :: L2) :=
  (h1.g.trans (Gives.cons _ h2.g)).trans (exH_close (f := raF b s) (A, c))
end
theorem refAcNew_ok (n : Int) (h : 0 ≤ n ∧ n ≤ 6) (L : List HP) : Fn Tryz.prog 5 #[.int .i64 n] L (fun v L' => ∃ b, v = .tuple #[.pointer (some ⟨b, 0, none⟩), .int .i64 0] ∧ L' = ra b (acNew n) :: L) := by
  refine Fn_enter Tryz.func5 rfl rfl rfl rfl ?_
  refine T_region ?_
  refine TL_y rfl rfl (Y_assign rfl) ?_
  refine TL_y rfl rfl (Y_assign rfl) ?_
  refine TL_nil ?_
  refine T_seq ?_
  refine T_region ?_
  refine TL_y rfl rfl (Y_move rfl) ?_
  refine TL_y rfl rfl (Y_lt rfl rfl) ?_
  refine TL_name 5 (v' := .bool false) rfl (congrArg Value.bool (decide_eq_false (by omega))) ?_
  refine TL_y rfl rfl (Y_move rfl) ?_
  refine TL_grun rfl rfl ?_
  refine TL_y rfl rfl (Y_move rfl) ?_
  refine TL_grun rfl rfl ?_
  refine TL_y rfl rfl (Y_gt rfl rfl) ?_
  refine TL_name 8 (v' := .bool false) rfl (congrArg Value.bool (decide_eq_false (by omega))) ?_
  refine TL_y rfl rfl (Y_pick_f rfl rfl) ?_
  refine TL_nil ?_
  refine T_cond_false rfl ?_
  refine T_skip ?_
  refine thenS_normal ?_
  refine T_region ?_
  refine TL_y rfl rfl (Y_move rfl) ?_
  refine TL_y rfl rfl (Y_build rfl rfl) ?_
  refine TL_box rfl rfl rfl ?_
  intro b12
  refine TL_y rfl rfl (Y_assign rfl) ?_
  refine TL_y rfl rfl (Y_assign rfl) ?_
  refine TL_nil ?_
  refine T_ret ?_
  refine RetQ.gives (osl_nil votedR 64 none _) ?_
  refine RetQ.gives (ra_close (A := none) (c := 0) b12 (acNew n)) ?_
  exact RetG_2 (.inl rfl) rfl (ResV.tmp rfl) (ResV.tmp rfl) GivesTo.g (⟨b12, rfl, rfl⟩)
theorem refAcNew_bad (n : Int) (h : ¬ (0 ≤ n ∧ n ≤ 6)) (L : List HP) : Fn Tryz.prog 5 #[.int .i64 n] L (fun v L' => v = .tuple #[.pointer none, .int .i64 1] ∧ L' = L) := by
  refine Fn_enter Tryz.func5 rfl rfl rfl rfl ?_
  refine T_region ?_
  refine TL_y rfl rfl (Y_assign rfl) ?_
  refine TL_y rfl rfl (Y_assign rfl) ?_
  refine TL_nil ?_
  refine T_seq ?_
  refine T_region ?_
  refine TL_y rfl rfl (Y_move rfl) ?_
  refine TL_y rfl rfl (Y_lt rfl rfl) ?_
  refine TL_y rfl rfl (Y_move rfl) ?_
  refine TL_splitd 6 rfl (fun h6 => ?_) (fun h6 => ?_)
  · refine TL_gskip rfl rfl rfl rfl ?_
    refine TL_gskip rfl rfl rfl rfl ?_
    refine TL_y rfl rfl (Y_pick_t rfl rfl) ?_
    refine TL_nil ?_
    refine T_cond_true rfl ?_
    refine T_region ?_
    refine TL_y rfl rfl (Y_assign rfl) ?_
    refine TL_y rfl rfl (Y_assign rfl) ?_
    refine TL_nil ?_
    refine T_ret ?_
    refine thenS_ret ?_
    exact RetG_2 (.inl rfl) rfl (ResV.tmp rfl) (ResV.tmp rfl) GivesTo.g (⟨rfl, rfl⟩)
  · refine TL_grun rfl rfl ?_
    refine TL_y rfl rfl (Y_move rfl) ?_
    refine TL_grun rfl rfl ?_
    refine TL_y rfl rfl (Y_gt rfl rfl) ?_
    refine TL_name 8 (v' := .bool true) rfl (congrArg Value.bool (decide_eq_true (by omega))) ?_
    refine TL_y rfl rfl (Y_pick_f rfl rfl) ?_
    refine TL_nil ?_
    refine T_cond_true rfl ?_
    refine T_region ?_
    refine TL_y rfl rfl (Y_assign rfl) ?_
    refine TL_y rfl rfl (Y_assign rfl) ?_
    refine TL_nil ?_
    refine T_ret ?_
    refine thenS_ret ?_
    exact RetG_2 (.inl rfl) rfl (ResV.tmp rfl) (ResV.tmp rfl) GivesTo.g (⟨rfl, rfl⟩)
theorem sameEntry16_spec {L : List HP} {A B : Option Addr} {c d : Nat} (a b : EntryD) (hk : SlN L (intR .i64) A c a.order.cut) (hk2 : SlN L (intR .i64) B d b.order.cut) : Fn Tryz.prog 60 #[.agg (List.toArray (entryC a (A, c))), .agg (List.toArray (entryC b (B, d)))] L (fun v L' => v = .bool (decide (a = b)) ∧ L' = L) := by
  refine Fn_enter Tryz.func60 rfl rfl rfl rfl ?_
  refine hk.lens fun hl => ?_
  simp only [maxEl] at hl
  refine T_region ?_
  refine TL_box rfl rfl rfl ?_
  intro b2
  refine TL_box rfl rfl rfl ?_
  intro b3
  refine TL_y rfl rfl (Y_assign rfl) ?_
  refine TL_nil ?_
  refine T_seq ?_
  refine T_region ?_
  refine TL_y rfl rfl (Y_field_addr rfl) ?_
  refine TL_y rfl rfl (Y_load rfl rfl) ?_
  refine TL_y rfl rfl (Y_field_addr rfl) ?_
  refine TL_y rfl rfl (Y_load rfl rfl) ?_
  refine TL_y rfl rfl (Y_unequal rfl rfl (EqIs.bool)) ?_
  refine TL_name 10 (v' := .bool (decide (a.noop ≠ b.noop))) rfl (congrArg Value.bool (by cases a.noop <;> cases b.noop <;> rfl)) ?_
  refine TL_both 38 48 (a.noop ≠ b.noop ∨ a.order.token ≠ b.order.token ∨ a.order.cart ≠ b.order.cart ∨ a.order.epoch ≠ b.order.epoch ∨ a.order.cut.length ≠ b.order.cut.length) ?_ ?_
  · refine TL_y rfl rfl (Y_move rfl) ?_
    refine TL_splitd 11 rfl (fun h11 => ?_) (fun h11 => ?_)
    · refine TL_gskip rfl rfl rfl rfl ?_
      refine TL_gskip rfl rfl rfl rfl ?_
      refine TL_gskip rfl rfl rfl rfl ?_
      refine TL_gskip rfl rfl rfl rfl ?_
      refine TL_gskip rfl rfl rfl rfl ?_
      refine TL_gskip rfl rfl rfl rfl ?_
      refine TL_gskip rfl rfl rfl rfl ?_
      refine TL_y rfl rfl (Y_pick_t rfl rfl) ?_
      refine TL_y rfl rfl (Y_move rfl) ?_
      refine TL_gskip rfl rfl rfl rfl ?_
      refine TL_gskip rfl rfl rfl rfl ?_
      refine TL_gskip rfl rfl rfl rfl ?_
      refine TL_gskip rfl rfl rfl rfl ?_
      refine TL_gskip rfl rfl rfl rfl ?_
      refine TL_gskip rfl rfl rfl rfl ?_
      refine TL_gskip rfl rfl rfl rfl ?_
      refine TL_y rfl rfl (Y_pick_t rfl rfl) ?_
      refine TL_y rfl rfl (Y_move rfl) ?_
      refine TL_gskip rfl rfl rfl rfl ?_
      refine TL_gskip rfl rfl rfl rfl ?_
      refine TL_gskip rfl rfl rfl rfl ?_
      refine TL_gskip rfl rfl rfl rfl ?_
      refine TL_gskip rfl rfl rfl rfl ?_
      refine TL_gskip rfl rfl rfl rfl ?_
      refine TL_gskip rfl rfl rfl rfl ?_
      refine TL_y rfl rfl (Y_pick_t rfl rfl) ?_
      refine TL_y rfl rfl (Y_move rfl) ?_
      refine TL_gskip rfl rfl rfl rfl ?_
      refine TL_gskip rfl rfl rfl rfl ?_
      refine TL_gskip rfl rfl rfl rfl ?_
      refine TL_gskip rfl rfl rfl rfl ?_
      refine TL_gskip rfl rfl rfl rfl ?_
      refine TL_gskip rfl rfl rfl rfl ?_
      refine TL_gskip rfl rfl rfl rfl ?_
      refine TL_gskip rfl rfl rfl rfl ?_
      refine TL_gskip rfl rfl rfl rfl ?_
      refine TL_y rfl rfl (Y_pick_t rfl rfl) ?_
      refine TL_chain_end rfl ?_ (by repeat (first | exact sub_refl | refine sub_ext rfl ?_)) GivesTo.g
      exact congrArg Value.bool (decide_eq_true (by simp_all <;> omega)).symm
    · refine TL_grun rfl rfl ?_
      refine TL_y rfl rfl (Y_field_addr rfl) ?_
      refine TL_grun rfl rfl ?_
      refine TL_y rfl rfl (Y_field_addr rfl) ?_
      refine TL_grun rfl rfl ?_
      refine TL_y rfl rfl (Y_load rfl rfl) ?_
      refine TL_grun rfl rfl ?_
      refine TL_y rfl rfl (Y_field_addr rfl) ?_
      refine TL_grun rfl rfl ?_
      refine TL_y rfl rfl (Y_field_addr rfl) ?_
      refine TL_grun rfl rfl ?_
      refine TL_y rfl rfl (Y_load rfl rfl) ?_
      refine TL_grun rfl rfl ?_
      refine TL_y rfl rfl (Y_str_ne rfl rfl) ?_
      refine TL_y rfl rfl (Y_pick_f rfl rfl) ?_
      refine TL_y rfl rfl (Y_move rfl) ?_
      refine TL_splitd 20 rfl (fun h20 => ?_) (fun h20 => ?_)
      · refine TL_gskip rfl rfl rfl rfl ?_
        refine TL_gskip rfl rfl rfl rfl ?_
        refine TL_gskip rfl rfl rfl rfl ?_
        refine TL_gskip rfl rfl rfl rfl ?_
        refine TL_gskip rfl rfl rfl rfl ?_
        refine TL_gskip rfl rfl rfl rfl ?_
        refine TL_gskip rfl rfl rfl rfl ?_
        refine TL_y rfl rfl (Y_pick_t rfl rfl) ?_
        refine TL_y rfl rfl (Y_move rfl) ?_
        refine TL_gskip rfl rfl rfl rfl ?_
        refine TL_gskip rfl rfl rfl rfl ?_
        refine TL_gskip rfl rfl rfl rfl ?_
        refine TL_gskip rfl rfl rfl rfl ?_
        refine TL_gskip rfl rfl rfl rfl ?_
        refine TL_gskip rfl rfl rfl rfl ?_
        refine TL_gskip rfl rfl rfl rfl ?_
        refine TL_y rfl rfl (Y_pick_t rfl rfl) ?_
        refine TL_y rfl rfl (Y_move rfl) ?_
        refine TL_gskip rfl rfl rfl rfl ?_
        refine TL_gskip rfl rfl rfl rfl ?_
        refine TL_gskip rfl rfl rfl rfl ?_
        refine TL_gskip rfl rfl rfl rfl ?_
        refine TL_gskip rfl rfl rfl rfl ?_
        refine TL_gskip rfl rfl rfl rfl ?_
        refine TL_gskip rfl rfl rfl rfl ?_
        refine TL_gskip rfl rfl rfl rfl ?_
        refine TL_gskip rfl rfl rfl rfl ?_
        refine TL_y rfl rfl (Y_pick_t rfl rfl) ?_
        refine TL_chain_end rfl ?_ (by repeat (first | exact sub_refl | refine sub_ext rfl ?_)) GivesTo.g
        exact congrArg Value.bool (decide_eq_true (by simp_all <;> omega)).symm
      · refine TL_grun rfl rfl ?_
        refine TL_y rfl rfl (Y_field_addr rfl) ?_
        refine TL_grun rfl rfl ?_
        refine TL_y rfl rfl (Y_field_addr rfl) ?_
        refine TL_grun rfl rfl ?_
        refine TL_y rfl rfl (Y_load rfl rfl) ?_
        refine TL_grun rfl rfl ?_
        refine TL_y rfl rfl (Y_field_addr rfl) ?_
        refine TL_grun rfl rfl ?_
        refine TL_y rfl rfl (Y_field_addr rfl) ?_
        refine TL_grun rfl rfl ?_
        refine TL_y rfl rfl (Y_load rfl rfl) ?_
        refine TL_grun rfl rfl ?_
        refine TL_y rfl rfl (Y_str_ne rfl rfl) ?_
        refine TL_y rfl rfl (Y_pick_f rfl rfl) ?_
        refine TL_y rfl rfl (Y_move rfl) ?_
        refine TL_splitd 29 rfl (fun h29 => ?_) (fun h29 => ?_)
        · refine TL_gskip rfl rfl rfl rfl ?_
          refine TL_gskip rfl rfl rfl rfl ?_
          refine TL_gskip rfl rfl rfl rfl ?_
          refine TL_gskip rfl rfl rfl rfl ?_
          refine TL_gskip rfl rfl rfl rfl ?_
          refine TL_gskip rfl rfl rfl rfl ?_
          refine TL_gskip rfl rfl rfl rfl ?_
          refine TL_y rfl rfl (Y_pick_t rfl rfl) ?_
          refine TL_y rfl rfl (Y_move rfl) ?_
          refine TL_gskip rfl rfl rfl rfl ?_
          refine TL_gskip rfl rfl rfl rfl ?_
          refine TL_gskip rfl rfl rfl rfl ?_
          refine TL_gskip rfl rfl rfl rfl ?_
          refine TL_gskip rfl rfl rfl rfl ?_
          refine TL_gskip rfl rfl rfl rfl ?_
          refine TL_gskip rfl rfl rfl rfl ?_
          refine TL_gskip rfl rfl rfl rfl ?_
          refine TL_gskip rfl rfl rfl rfl ?_
          refine TL_y rfl rfl (Y_pick_t rfl rfl) ?_
          refine TL_chain_end rfl ?_ (by repeat (first | exact sub_refl | refine sub_ext rfl ?_)) GivesTo.g
          exact congrArg Value.bool (decide_eq_true (by simp_all <;> omega)).symm
        · refine TL_grun rfl rfl ?_
          refine TL_y rfl rfl (Y_field_addr rfl) ?_
          refine TL_grun rfl rfl ?_
          refine TL_y rfl rfl (Y_field_addr rfl) ?_
          refine TL_grun rfl rfl ?_
          refine TL_y rfl rfl (Y_load rfl rfl) ?_
          refine TL_grun rfl rfl ?_
          refine TL_y rfl rfl (Y_field_addr rfl) ?_
          refine TL_grun rfl rfl ?_
          refine TL_y rfl rfl (Y_field_addr rfl) ?_
          refine TL_grun rfl rfl ?_
          refine TL_y rfl rfl (Y_load rfl rfl) ?_
          refine TL_grun rfl rfl ?_
          refine TL_y rfl rfl (Y_ne rfl rfl) ?_
          refine TL_y rfl rfl (Y_pick_f rfl rfl) ?_
          refine TL_y rfl rfl (Y_move rfl) ?_
          refine TL_splitd 38 rfl (fun h38 => ?_) (fun h38 => ?_)
          · refine TL_gskip rfl rfl rfl rfl ?_
            refine TL_gskip rfl rfl rfl rfl ?_
            refine TL_gskip rfl rfl rfl rfl ?_
            refine TL_gskip rfl rfl rfl rfl ?_
            refine TL_gskip rfl rfl rfl rfl ?_
            refine TL_gskip rfl rfl rfl rfl ?_
            refine TL_gskip rfl rfl rfl rfl ?_
            refine TL_gskip rfl rfl rfl rfl ?_
            refine TL_gskip rfl rfl rfl rfl ?_
            refine TL_y rfl rfl (Y_pick_t rfl rfl) ?_
            refine TL_chain_end rfl ?_ (by repeat (first | exact sub_refl | refine sub_ext rfl ?_)) GivesTo.g
            exact congrArg Value.bool (decide_eq_true (by simp_all <;> omega)).symm
          · refine TL_grun rfl rfl ?_
            refine TL_y rfl rfl (Y_field_addr rfl) ?_
            refine TL_grun rfl rfl ?_
            refine TL_y rfl rfl (Y_field_addr rfl) ?_
            refine TL_grun rfl rfl ?_
            refine TL_y rfl rfl (Y_load rfl rfl) ?_
            refine TL_grun rfl rfl ?_
            refine TL_y rfl rfl (Y_len rfl) ?_
            refine TL_grun rfl rfl ?_
            refine TL_y rfl rfl (Y_field_addr rfl) ?_
            refine TL_grun rfl rfl ?_
            refine TL_y rfl rfl (Y_field_addr rfl) ?_
            refine TL_grun rfl rfl ?_
            refine TL_y rfl rfl (Y_load rfl rfl) ?_
            refine TL_grun rfl rfl ?_
            refine TL_y rfl rfl (Y_len rfl) ?_
            refine TL_grun rfl rfl ?_
            refine TL_y rfl rfl (Y_ne rfl rfl) ?_
            refine TL_y rfl rfl (Y_pick_f rfl rfl) ?_
            refine TL_chain_end rfl ?_ (by repeat (first | exact sub_refl | refine sub_ext rfl ?_)) GivesTo.g
            exact congrArg Value.bool (decide_eq_decide.2 (by simp_all <;> omega))
  refine TL_nil ?_
  refine T_if rfl (fun h48 => ?_) (fun h48 => ?_)
  · refine T_region ?_
    refine TL_y rfl rfl (Y_assign rfl) ?_
    refine TL_nil ?_
    refine T_ret ?_
    refine thenS_ret ?_
    exact RetG_1 (.inl rfl) rfl (ResV.tmp rfl) GivesTo.g (⟨by rw [decide_eq_false]; rintro rfl; simp at h48, rfl⟩)
  · simp only [not_or, Classical.not_not] at h48
    obtain ⟨q1, q2, q3, q4, q5⟩ := h48
    refine T_skip ?_
    refine thenS_normal ?_
    refine T_seq ?_
    refine T_region ?_
    refine TL_y rfl rfl (Y_assign rfl) ?_
    refine TL_nil ?_
    refine T_block ?_
    refine T_loopK (σ := Nat) [2, 3] (fun i => i ≤ a.order.cut.length ∧ a.order.cut.take i = b.order.cut.take i) (fun i kv => (5, .int .i64 (i : Int)) :: kv) (fun i => cells b3 (entryC b (B, d)) 46 :: cells b2 (entryC a (A, c)) 46 :: L) (fun i => a.order.cut.length - i) (0) rfl (⟨Nat.zero_le _, rfl⟩) (GivesTo.g) (sub_cons rfl (sub_cons rfl (sub_cons rfl (sub_nil)))) ?_
    intro i hi
    refine T_seq ?_
    refine T_region ?_
    refine TL_y rfl rfl (Y_move rfl) ?_
    refine TL_y rfl rfl (Y_field_addr rfl) ?_
    refine TL_y rfl rfl (Y_field_addr rfl) ?_
    refine TL_y rfl rfl (Y_load rfl rfl) ?_
    refine TL_y rfl rfl (Y_len rfl) ?_
    refine TL_y rfl rfl (Y_lt rfl rfl) ?_
    refine TL_nil ?_
    refine T_if rfl (fun h54 => ?_) (fun h54 => ?_)
    · refine T_skip ?_
      refine thenS_normal ?_
      refine T_seq ?_
      refine T_block ?_
      have hx := List.getElem?_eq_getElem (show i < a.order.cut.length by omega)
      have hy := List.getElem?_eq_getElem (show i < b.order.cut.length by omega)
      have hka := hk.tail (p := cells b2 (entryC a (A, c)) 46) |>.tail (p := cells b3 (entryC b (B, d)) 46)
      have hkb := hk2.tail (p := cells b2 (entryC a (A, c)) 46) |>.tail (p := cells b3 (entryC b (B, d)) 46)
      refine T_addr_n hka hx fun b1' o1 e1 => ?_
      refine T_addr_n hkb hy fun b2' o2 e2 => ?_
      subst e1
      subst e2
      refine T_region_draw _ [0, 1, 3, 0, 15, 31, 0, 64, 192, 0, 960, 1984, 4095] [] [(0, true), (1, true), (2, true), (3, true), (4, true), (5, true), (6, true), (7, true), (8, true), (9, true), (10, true), (11, true), (12, true)] (by kernel_rfl) (by decide +kernel) (Gives.refl _) ?_
      refine TF_y rfl rfl (Y_field_addr rfl) ?_
      refine TF_y rfl rfl (Y_field_addr rfl) ?_
      refine TF_y rfl rfl (Y_load rfl rfl) ?_
      refine TF_y rfl rfl (Y_move rfl) ?_
      refine TF_y rfl rfl (Y_index_n (R := intR .i64) (xs := a.order.cut) rfl rfl rfl hx) ?_
      refine TF_y rfl rfl (Y_load_n (q := 0) rfl hka hx rfl) ?_
      refine TF_y rfl rfl (Y_field_addr rfl) ?_
      refine TF_y rfl rfl (Y_field_addr rfl) ?_
      refine TF_y rfl rfl (Y_load rfl rfl) ?_
      refine TF_y rfl rfl (Y_move rfl) ?_
      refine TF_y rfl rfl (Y_index_n (R := intR .i64) (xs := b.order.cut) rfl rfl rfl hy) ?_
      refine TF_y rfl rfl (Y_load_n (q := 0) rfl hkb hy rfl) ?_
      refine TF_y rfl rfl (Y_ne rfl rfl) ?_
      refine TF_nil ?_
      refine T_if rfl (fun h69 => ?_) (fun h69 => ?_)
      · refine T_region ?_
        refine TL_y rfl rfl (Y_assign rfl) ?_
        refine TL_nil ?_
        refine T_ret ?_
        refine inB_ret ?_
        refine thenS_ret ?_
        refine thenS_ret ?_
        refine inB_ret ?_
        refine thenS_ret ?_
        exact RetG_1 (.inl rfl) rfl (ResV.tmp rfl) GivesTo.g (⟨by rw [decide_eq_false]; rintro rfl; exact h69 rfl, rfl⟩)
      · refine T_skip ?_
        refine inB_normal ?_
        refine thenS_normal ?_
        refine T_region_last ?_
        refine TL_y rfl rfl (Y_move rfl) ?_
        refine TL_y rfl rfl (Y_add rfl rfl (by omega)) ?_
        refine TL_name 56 (v' := .int .i64 ((i + 1 : Nat) : Int)) rfl (rfl) ?_
        refine TL_y rfl rfl (Y_assign rfl) ?_
        refine TL_nil ?_
        refine thenS_normal ?_
        exact ⟨i + 1, ⟨by omega, take_step hi.2 hx hy (Classical.not_not.1 h69)⟩, by omega, holds_to (sub_cons rfl (sub_cons rfl (sub_cons rfl (sub_nil)))) GivesTo.g⟩
    · refine T_exit ?_
      refine thenS_exit ?_
      refine thenS_exit ?_
      refine inB_hit ?_
      refine thenS_normal ?_
      refine T_region ?_
      refine TL_y rfl rfl (Y_assign rfl) ?_
      refine TL_nil ?_
      refine T_ret ?_
      exact RetG_1 (.inl rfl) rfl (ResV.tmp rfl) GivesTo.g (⟨by rw [decide_eq_true (entry_eq.2 ⟨q1, order_eq.2 ⟨q2, q3, q4, take_all hi.2 (by omega) (by omega)⟩⟩)], rfl⟩)
theorem refAbove16_spec {L : List HP} {b : Nat} {s : AccD} (hlen : s.V.length ≤ 4096) (slot : Int) : Fn Tryz.prog 34 #[.pointer (some ⟨b, 0, none⟩), .int .i64 slot] (ra b s :: L) (fun v L' => ∃ A c, v = .slice A (aboveV s.V slot).length c ∧ L' = osl votedR 64 A c (aboveV s.V slot) :: ra b s :: L) := by
  refine Fn_enter Tryz.func34 rfl rfl rfl rfl ?_
  refine T_ra fun A c hlc => ?_
  refine T_region ?_
  refine TL_y rfl rfl (Y_assign rfl) ?_
  refine TL_nil ?_
  refine T_region ?_
  refine TL_y rfl rfl (Y_assign rfl) ?_
  refine TL_nil ?_
  refine T_seq ?_
  refine T_gives (show Gives _ (osl votedR 64 none 0 (aboveV (s.V.take 0) slot) :: _) from osl_nil votedR 64 none _) ?_
  refine T_region ?_
  refine TL_y rfl rfl (Y_assign rfl) ?_
  refine TL_nil ?_
  refine T_block ?_
  refine T_loopK (σ := AbG) [0, 1] (fun g => g.i ≤ s.V.length) (fun g kv => (6, .int .i64 (g.i : Int)) :: (5, .slice g.A (aboveV (s.V.take g.i) slot).length g.c) :: kv) (fun g => osl votedR 64 g.A g.c (aboveV (s.V.take g.i) slot) :: cells b [.int .i64 s.node, .int .i64 s.prom.1, .int .i64 s.prom.2, .slice A s.V.length c] 41 :: osl votedR 64 A c s.V :: L) (fun g => s.V.length - g.i) (⟨0, none, 0⟩) rfl (Nat.zero_le _) (GivesTo.g) (sub_cons rfl (sub_cons rfl (sub_cons rfl (sub_cons rfl (sub_nil))))) ?_
  rintro ⟨i, X, cx⟩ hil
  dsimp only at hil ⊢
  refine T_seq ?_
  refine T_region ?_
  refine TL_y rfl rfl (Y_move rfl) ?_
  refine TL_y rfl rfl (Y_move rfl) ?_
  refine TL_y rfl rfl (Y_nil_check rfl) ?_
  refine TL_y rfl rfl (Y_field_addr rfl) ?_
  refine TL_y rfl rfl (Y_load rfl rfl) ?_
  refine TL_y rfl rfl (Y_len rfl) ?_
  refine TL_y rfl rfl (Y_lt rfl rfl) ?_
  refine TL_nil ?_
  refine T_if rfl (fun h13 => ?_) (fun h13 => ?_)
  · refine T_skip ?_
    refine thenS_normal ?_
    refine T_seq ?_
    refine T_block ?_
    obtain ⟨v, hv⟩ : ∃ v, s.V[i]? = some v := ⟨_, List.getElem?_eq_getElem (by omega)⟩
    have hsn := above_snoc hv slot
    have hal : (aboveV (s.V.take i) slot).length ≤ (s.V.take i).length := List.length_filter_le _ _
    have htl : (s.V.take i).length ≤ s.V.length := by rw [List.length_take]; omega
    refine T_region ?_
    refine TL_y rfl rfl (Y_move rfl) ?_
    refine TL_y rfl rfl (Y_nil_check rfl) ?_
    refine TL_y rfl rfl (Y_field_addr rfl) ?_
    refine TL_y rfl rfl (Y_load rfl rfl) ?_
    refine TL_y rfl rfl (Y_move rfl) ?_
    refine TL_index_n rfl rfl rfl (rfl) ((sln (A := A) (c := c))) (hv) ?_
    intro bn21 on21 hA21 hk21
    have hu21 := hv
    refine TL_y rfl rfl (Y_field_addr2 rfl) ?_
    refine TL_y rfl rfl (Y_load_nx rfl hk21 hu21 (fun _ => rfl)) ?_
    refine TL_y rfl rfl (Y_move rfl) ?_
    refine TL_y rfl rfl (Y_ge rfl rfl) ?_
    refine TL_nil ?_
    refine T_if rfl (fun h25 => ?_) (fun h25 => ?_)
    · rw [if_pos h25] at hsn
      refine T_region_last ?_
      refine TL_y rfl rfl (Y_move rfl) ?_
      refine TL_y rfl rfl (Y_move rfl) ?_
      refine TL_y rfl rfl (Y_nil_check rfl) ?_
      refine TL_y rfl rfl (Y_field_addr rfl) ?_
      refine TL_y rfl rfl (Y_load rfl rfl) ?_
      refine TL_y rfl rfl (Y_move rfl) ?_
      refine TL_index_n rfl rfl rfl (rfl) ((sln (A := A) (c := c))) (hv) ?_
      intro bn32 on32 hA32 hk32
      have hu32 := hv
      refine TL_load_nx rfl rfl hk32 hu32 (fun _ => rfl) ?_
      intro p33 ok33
      simp only [List.cons_append, List.nil_append]
      refine TL_build_slice rfl rfl rfl rfl rfl rfl ?_
      intro b34
      refine TL_osl (k := 1) votedR [v] (cells_one' (ex_rep p33 (sep_sl slk) ok33)) rfl (by decide) ?_
      refine TL_freeze_osl ?_
      refine TL_name 34 (v' := .slice (some ⟨b34, 0, none⟩) [v].length 1) rfl rfl ?_
      refine TL_append rfl rfl rfl rfl rfl slk (by simp only [List.length_cons, List.length_nil]; omega) ?_
      intro A35 c35
      rw [← hsn]
      refine TL_y rfl rfl (Y_assign rfl) ?_
      refine TL_nil ?_
      refine inB_normal ?_
      refine thenS_normal ?_
      refine T_region_last ?_
      refine TL_y rfl rfl (Y_move rfl) ?_
      refine TL_y rfl rfl (Y_add rfl rfl (by omega)) ?_
      refine TL_name 15 (v' := .int .i64 ((i + 1 : Nat) : Int)) rfl (rfl) ?_
      refine TL_y rfl rfl (Y_assign rfl) ?_
      refine TL_nil ?_
      refine thenS_normal ?_
      exact ⟨⟨i + 1, A35, c35⟩, (by simp only; omega), by simp only; omega, holds_to (sub_cons rfl (sub_cons rfl (sub_cons rfl (sub_cons rfl (sub_nil))))) GivesTo.g⟩
    · rw [if_neg h25, List.append_nil] at hsn
      rw [← hsn]
      refine T_skip ?_
      refine inB_normal ?_
      refine thenS_normal ?_
      refine T_region_last ?_
      refine TL_y rfl rfl (Y_move rfl) ?_
      refine TL_y rfl rfl (Y_add rfl rfl (by omega)) ?_
      refine TL_name 15 (v' := .int .i64 ((i + 1 : Nat) : Int)) rfl (rfl) ?_
      refine TL_y rfl rfl (Y_assign rfl) ?_
      refine TL_nil ?_
      refine thenS_normal ?_
      exact ⟨⟨i + 1, X, cx⟩, (by simp only; omega), by simp only; omega, holds_to (sub_cons rfl (sub_cons rfl (sub_cons rfl (sub_cons rfl (sub_nil))))) GivesTo.g⟩
  · refine T_exit ?_
    refine thenS_exit ?_
    refine thenS_exit ?_
    refine inB_hit ?_
    refine thenS_normal ?_
    refine T_region ?_
    refine TL_y rfl rfl (Y_move rfl) ?_
    refine TL_y rfl rfl (Y_assign rfl) ?_
    refine TL_nil ?_
    refine T_ret ?_
    rw [List.take_of_length_le (show s.V.length ≤ i by omega)]
    refine RetQ.gives (Gives.cons _ (ra_close (A := A) (c := c) b s)) ?_
    exact RetG_1 (.inl rfl) rfl (ResV.tmp rfl) GivesTo.g (⟨X, cx, rfl, rfl⟩)
theorem refFind16_spec {L : List HP} {b : Nat} {s : AccD} (slot : Int) : Fn Tryz.prog 32 #[.pointer (some ⟨b, 0, none⟩), .int .i64 slot] (ra b s :: L) (fun v L' => ∃ r : Int, v = .int .i64 r ∧ L' = ra b s :: L ∧ ((r = -1 ∧ getM (vmap s.V) slot = none) ∨ ∃ (i : Nat) (u : VotedD), r = (i : Int) ∧ s.V[i]? = some u ∧ u.slot = slot)) := by
  refine Fn_enter Tryz.func32 rfl rfl rfl rfl ?_
  refine T_ra fun A c hlc => ?_
  simp only [maxEl] at hlc
  refine T_region ?_
  refine TL_y rfl rfl (Y_assign rfl) ?_
  refine TL_nil ?_
  refine T_seq ?_
  refine T_region ?_
  refine TL_y rfl rfl (Y_assign rfl) ?_
  refine TL_nil ?_
  refine T_block ?_
  refine T_loopK (σ := Nat) [0, 1] (fun i => i ≤ s.V.length ∧ ∀ q ∈ s.V.take i, q.slot ≠ slot) (fun i kv => (5, .int .i64 (i : Int)) :: kv) (fun i => cells b [.int .i64 s.node, .int .i64 s.prom.1, .int .i64 s.prom.2, .slice A s.V.length c] 41 :: osl votedR 64 A c s.V :: L) (fun i => s.V.length - i) (0) rfl (⟨Nat.zero_le _, by simp⟩) (GivesTo.g) (sub_cons rfl (sub_cons rfl (sub_cons rfl (sub_nil)))) ?_
  intro i hi
  refine T_seq ?_
  refine T_region ?_
  refine TL_y rfl rfl (Y_move rfl) ?_
  refine TL_y rfl rfl (Y_move rfl) ?_
  refine TL_y rfl rfl (Y_nil_check rfl) ?_
  refine TL_y rfl rfl (Y_field_addr rfl) ?_
  refine TL_y rfl rfl (Y_load rfl rfl) ?_
  refine TL_y rfl rfl (Y_len rfl) ?_
  refine TL_y rfl rfl (Y_lt rfl rfl) ?_
  refine TL_nil ?_
  refine T_if rfl (fun h12 => ?_) (fun h12 => ?_)
  · refine T_skip ?_
    refine thenS_normal ?_
    refine T_seq ?_
    refine T_block ?_
    obtain ⟨u, hu⟩ : ∃ u, s.V[i]? = some u := ⟨_, List.getElem?_eq_getElem (by omega)⟩
    refine T_region ?_
    refine TL_y rfl rfl (Y_move rfl) ?_
    refine TL_y rfl rfl (Y_nil_check rfl) ?_
    refine TL_y rfl rfl (Y_field_addr rfl) ?_
    refine TL_y rfl rfl (Y_load rfl rfl) ?_
    refine TL_y rfl rfl (Y_move rfl) ?_
    refine TL_index_n rfl rfl rfl (rfl) ((sln (A := A) (c := c))) (hu) ?_
    intro bn20 on20 hA20 hk20
    have hu20 := hu
    refine TL_y rfl rfl (Y_field_addr2 rfl) ?_
    refine TL_y rfl rfl (Y_load_nx rfl hk20 hu20 (fun _ => rfl)) ?_
    refine TL_y rfl rfl (Y_move rfl) ?_
    refine TL_y rfl rfl (Y_eq rfl rfl) ?_
    refine TL_nil ?_
    refine T_if rfl (fun h24 => ?_) (fun h24 => ?_)
    · refine T_region ?_
      refine TL_y rfl rfl (Y_move rfl) ?_
      refine TL_y rfl rfl (Y_assign rfl) ?_
      refine TL_nil ?_
      refine T_ret ?_
      refine inB_ret ?_
      refine thenS_ret ?_
      refine thenS_ret ?_
      refine inB_ret ?_
      refine thenS_ret ?_
      refine RetQ.gives (ra_close (A := A) (c := c) b s) ?_
      exact RetG_1 (.inl rfl) rfl (ResV.tmp rfl) GivesTo.g (⟨_, rfl, rfl, .inr ⟨i, u, rfl, hu, h24⟩⟩)
    · refine T_skip ?_
      refine inB_normal ?_
      refine thenS_normal ?_
      refine T_region_last ?_
      refine TL_y rfl rfl (Y_move rfl) ?_
      refine TL_y rfl rfl (Y_add rfl rfl (by omega)) ?_
      refine TL_name 14 (v' := .int .i64 ((i + 1 : Nat) : Int)) rfl (rfl) ?_
      refine TL_y rfl rfl (Y_assign rfl) ?_
      refine TL_nil ?_
      refine thenS_normal ?_
      exact ⟨i + 1, ⟨by omega, by rw [takeAt hu]; intro q hq; rcases List.mem_append.1 hq with h | h; exact hi.2 q h; (simp at h; subst h; exact h24)⟩, by omega, holds_to (sub_cons rfl (sub_cons rfl (sub_cons rfl (sub_nil)))) GivesTo.g⟩
  · refine T_exit ?_
    refine thenS_exit ?_
    refine thenS_exit ?_
    refine inB_hit ?_
    refine thenS_normal ?_
    refine T_region ?_
    refine TL_y rfl rfl (Y_assign rfl) ?_
    refine TL_nil ?_
    refine T_ret ?_
    have e1 : getM (vmap s.V) slot = none := vmap_none.2 (by have := hi.2; rwa [List.take_of_length_le (by omega)] at this)
    refine RetQ.gives (ra_close (A := A) (c := c) b s) ?_
    exact RetG_1 (.inl rfl) rfl (ResV.tmp rfl) GivesTo.g (⟨_, rfl, rfl, .inl ⟨rfl, e1⟩⟩)
theorem sameVotedN_spec {L : List HP} {A B : Option Addr} {c d : Nat} {xs ys : List VotedD} (hk : SlN L votedR A c xs) (hk2 : SlN L votedR B d ys) : Fn Tryz.prog 19 #[.slice A xs.length c, .slice B ys.length d] L (fun v L' => v = .bool (decide (xs = ys)) ∧ L' = L) :=
  Fn_ro (φ := fun M => sliceAt M votedR A c xs ∧ sliceAt M votedR B d ys) (fun hM h => ⟨h.1.mono hM, h.2.mono hM⟩) (ψ := fun v => v = .bool (decide (xs = ys))) (fun L k => sameVoted_spec (k.mono fun _ h => h.1) (k.mono fun _ h => h.2)) (fun M k N hd hs hM hk' => ⟨sliceAt2_at hM (hk M k N hd hs hM hk'), sliceAt2_at hM (hk2 M k N hd hs hM hk')⟩)
theorem same16_spec {L : List HP} {b bx : Nat} {s : AccD} : Fn Tryz.prog 9 #[.pointer (some ⟨b, 0, none⟩), .pointer (some ⟨bx, 0, none⟩)] (ac b s :: ra bx s :: L) (fun v L' => v = .bool true ∧ L' = ac b s :: ra bx s :: L) := by
  refine Fn_enter Tryz.func9 rfl rfl rfl rfl ?_
  refine T_region ?_
  refine TL_y rfl rfl (Y_assign rfl) ?_
  refine TL_nil ?_
  refine T_pullk bx ?_
  refine T_ra fun A c hlc => ?_
  refine T_region_draw _ [0, 1, 0, 4, 12, 28, 63, 127, 255, 511, 255, 1279, 3327, 7423, 16383, 32767, 65535] [] [(0, true), (2, true), (3, true), (4, true), (5, true), (1, false), (6, true), (7, true), (8, true), (10, true), (11, true), (12, true), (13, true), (9, false), (14, false), (15, true), (16, true)] (by kernel_rfl) (by decide +kernel) (Gives.refl _) ?_
  refine TF_y rfl rfl (Y_move rfl) ?_
  refine TF_y rfl rfl (Y_move rfl) ?_
  refine TF_y rfl rfl (Y_nil_check rfl) ?_
  refine TF_y rfl rfl (Y_field_addr rfl) ?_
  refine TF_y rfl rfl (Y_load_agg rfl rfl) ?_
  refine TF_anchor rfl ?_
  refine TL_pullk b ?_
  refine TL_call rfl rfl (acPromised_spec) ?_
  rintro _ _ ⟨rfl, rfl⟩
  refine TF_end GivesTo.g ?_
  refine TF_y rfl rfl (Y_eq_bal (a := s.prom) (b := s.prom) rfl rfl) ?_
  refine TF_name 11 (v' := .bool true) rfl (congrArg Value.bool (decide_eq_true rfl)) ?_
  refine TF_y rfl rfl (Y_move rfl) ?_
  refine TF_gy rfl rfl rfl rfl (Y_move rfl) ?_
  refine TF_gy rfl rfl rfl rfl (Y_move rfl) ?_
  refine TF_gy rfl rfl rfl rfl (Y_nil_check rfl) ?_
  refine TF_gy rfl rfl rfl rfl (Y_field_addr rfl) ?_
  refine TF_gy rfl rfl rfl rfl (Y_load rfl rfl) ?_
  refine TF_anchor rfl ?_
  refine TL_grun rfl rfl ?_
  refine TL_pullk b ?_
  refine TL_call rfl rfl (acVotes_spec) ?_
  rintro _ _ ⟨A14, c14, rfl, rfl⟩
  refine TL_freeze_osl ?_
  refine TF_end GivesTo.g ?_
  refine TF_anchor rfl ?_
  refine TL_grun rfl rfl ?_
  refine TL_call rfl rfl (sameVotedN_spec (sln (A := A14) (c := c14)) (sln (A := A) (c := c))) ?_
  rintro _ _ ⟨rfl, rfl⟩
  refine TL_name 19 (v' := .bool true) rfl (congrArg Value.bool (by simp)) ?_
  refine TF_end GivesTo.g ?_
  refine TF_y rfl rfl (Y_pick_t rfl rfl) ?_
  refine TF_y rfl rfl (Y_assign rfl) ?_
  refine TF_nil ?_
  refine T_ret ?_
  refine RetQ.gives (ra_close (A := A) (c := c) bx s) ?_
  exact RetG_1 (.inl rfl) rfl (ResV.tmp rfl) GivesTo.g (⟨rfl, rfl⟩)
end Go.SL
set_option linter.unusedVariables false
set_option linter.unusedSimpArgs false
namespace Go.SL
open Go Go.Proofs
theorem voted_ne {u v : VotedD} (hs : u.slot = v.slot) : u ≠ v ↔ u.bal ≠ v.bal ∨ ¬ u.en = v.en := by
  obtain ⟨u1, u2, u3⟩ := u
  obtain ⟨v1, v2, v3⟩ := v
  dsimp only at hs; subst hs
  by_cases h : u2 = v2 <;> simp [h]
theorem inc_inj {V : List VotedD} (h : IncV V) {i j : Nat} {u v : VotedD} (hu : V[i]? = some u) (hv : V[j]? = some v) (e : u.slot = v.slot) : i = j := by
  rcases Nat.lt_trichotomy i j with hlt | heq | hlt
  · have := inc_at h hu hv hlt; omega
  · exact heq
  · have := inc_at h hv hu hlt; omega
set_option maxRecDepth 20000 in
theorem refVote_some {L : List HP} {b : Nat} {s : AccD} {i : Nat} {u : VotedD} (v : VotedD) (q : Option Addr × Nat) (hinc : IncV s.V) (hlen : s.V.length ≤ 4096) (hvo : votedOk v) (hk : SlK L (intR .i64) q.1 q.2 v.en.order.cut) (hu : s.V[i]? = some u) (hus : u.slot = v.slot) : Fn Tryz.prog 35 #[.pointer (some ⟨b, 0, none⟩), votV v q] (ra b s :: L) (fun r L' => r = .bool (decide (u ≠ v)) ∧ L' = ra b ⟨s.node, s.prom, putV s.V v⟩ :: L) := by
  have hgu : getM (vmap s.V) v.slot = some u := by rw [← hus]; exact vmap_mem hinc (List.mem_of_getElem? hu)
  have hil := (List.getElem?_eq_some_iff.1 hu).1
  refine Fn_enter Tryz.func35 rfl rfl rfl rfl ?_
  refine T_gives (SlK.lay hk.tail) ?_
  refine T_region ?_
  refine TL_box rfl rfl rfl ?_
  intro b3
  refine TL_y rfl rfl (Y_assign rfl) ?_
  refine TL_nil ?_
  refine T_seq ?_
  refine T_region ?_
  refine TL_y rfl rfl (Y_move rfl) ?_
  refine TL_y rfl rfl (Y_field_addr rfl) ?_
  refine TL_y rfl rfl (Y_load rfl rfl) ?_
  refine TL_pullk b ?_
  refine TL_call rfl rfl (refFind16_spec v.slot) ?_
  rintro _ _ ⟨r, rfl, rfl, hr⟩
  have hri : r = (i : Int) := (by rcases hr with ⟨_, h⟩ | ⟨j, w, h1, h2, h3⟩; (rw [hgu] at h; cases h); (have := inc_inj hinc h2 hu (h3.trans hus.symm); omega))
  subst hri
  refine TL_y rfl rfl (Y_assign rfl) ?_
  refine TL_nil ?_
  refine T_region ?_
  refine TL_y rfl rfl (Y_move rfl) ?_
  refine TL_y rfl rfl (Y_ge rfl rfl) ?_
  refine TL_name 13 (v' := .bool true) rfl (congrArg Value.bool (decide_eq_true (by omega))) ?_
  refine TL_nil ?_
  refine T_cond_true rfl ?_
  refine T_pullk b ?_
  refine T_ra fun A c hlc => ?_
  refine T_focus (A := A) (c := c) hu fun g3 l3 hA3 hl3 => ?_
  subst hA3
  refine T_pull 1 rfl ?_
  refine T_isx (R := votedR) fun p0 hp0 ok0 => ?_
  subst hp0
  simp only [List.cons_append, List.nil_append]
  refine T_region_draw _ [0, 1, 3, 7, 0, 31, 63, 127, 0, 256, 1023, 2047, 4095, 8191, 16383, 32767, 4095, 131071, 262143, 524287, 4095, 1052671, 4194303, 8388607, 16777215, 33554431] [] [(0, true), (1, true), (2, true), (3, true), (4, true), (5, true), (6, true), (7, true), (8, true), (9, true), (10, true), (11, true), (12, true), (13, true), (14, true), (15, true), (16, true), (17, true), (18, true), (19, true), (20, true), (21, true), (22, false), (23, true), (24, true), (25, true)] (by kernel_rfl) (by decide +kernel) (Gives.refl _) ?_
  refine TF_y rfl rfl (Y_move rfl) ?_
  refine TF_y rfl rfl (Y_nil_check rfl) ?_
  refine TF_y rfl rfl (Y_field_addr rfl) ?_
  refine TF_y rfl rfl (Y_load rfl rfl) ?_
  refine TF_y rfl rfl (Y_move rfl) ?_
  refine TF_y rfl rfl (Y_index_x (R := votedR) (xs := s.V) rfl rfl rfl hu) ?_
  refine TF_y rfl rfl (Y_field_addr2 rfl) ?_
  refine TF_y rfl rfl (Y_load_x_agg (vs := [.int .i64 u.bal.1, .int .i64 u.bal.2]) rfl rfl) ?_
  refine TF_y rfl rfl (Y_field_addr rfl) ?_
  refine TF_y rfl rfl (Y_load_agg rfl rfl) ?_
  refine TF_y rfl rfl (Y_ne_bal (a := u.bal) (b := v.bal) rfl rfl) ?_
  refine TF_name 24 (v' := .bool (decide (u.bal ≠ v.bal))) rfl (by by_cases h : u.bal = v.bal <;> simp [h]) ?_
  refine TF_y rfl rfl (Y_move rfl) ?_
  refine TF_splitd 25 rfl (fun h25 => ?_) (fun h25 => ?_)
  · refine TF_gskip rfl rfl rfl rfl rfl ?_
    refine TF_gskip rfl rfl rfl rfl rfl ?_
    refine TF_gskip rfl rfl rfl rfl rfl ?_
    refine TF_gskip rfl rfl rfl rfl rfl ?_
    refine TF_gskip rfl rfl rfl rfl rfl ?_
    refine TF_gskip rfl rfl rfl rfl rfl ?_
    refine TF_gskip rfl rfl rfl rfl rfl ?_
    refine TF_gskip rfl rfl rfl rfl rfl ?_
    refine TF_gskip rfl rfl rfl rfl rfl ?_
    refine TF_gskip rfl rfl rfl rfl rfl ?_
    refine TF_anchor rfl ?_
    refine TL_gskip rfl rfl rfl rfl ?_
    refine TF_end GivesTo.g ?_
    refine TF_gskip rfl rfl rfl rfl rfl ?_
    refine TF_y rfl rfl (Y_pick_t rfl rfl) ?_
    refine TF_y rfl rfl (Y_assign rfl) ?_
    refine TF_nil ?_
    refine T_region_draw _ [0, 1, 3, 7, 0, 0, 63, 127] [7] [(0, true), (1, true), (2, true), (3, true), (4, true), (5, true), (6, true), (7, false)] (by kernel_rfl) (by decide +kernel) (Gives.refl _) ?_
    refine TF_y rfl rfl (Y_move rfl) ?_
    refine TF_y rfl rfl (Y_nil_check rfl) ?_
    refine TF_y rfl rfl (Y_field_addr rfl) ?_
    refine TF_y rfl rfl (Y_load rfl rfl) ?_
    refine TF_y rfl rfl (Y_move rfl) ?_
    refine TF_y rfl rfl (Y_load_agg rfl rfl) ?_
    refine TF_y rfl rfl (Y_index_x (R := votedR) (xs := s.V) rfl rfl rfl hu) ?_
    refine TF_anchor rfl ?_
    refine TL_store_x rfl rfl rfl rfl rfl rfl ?_
    refine TF_end_tail rfl ?_
    refine TF_nil ?_
    refine T_unx (R := votedR) g3 v (ex_rep q (sep_sl slk) hvo) ?_
    rw [show s.V.length = (s.V.set i v).length from (List.length_set ..).symm]
    rw [show putV s.V v = s.V.set i v from put_set hinc hu hus]
    refine T_gives (ra_close (A := some ⟨g3, 0, none⟩) (c := c) b ⟨s.node, s.prom, s.V.set i v⟩) ?_
    refine T_region ?_
    refine TL_y rfl rfl (Y_move rfl) ?_
    refine TL_y rfl rfl (Y_assign rfl) ?_
    refine TL_nil ?_
    refine T_ret ?_
    refine thenS_ret ?_
    exact RetG_1 (.inl rfl) rfl (ResV.tmp rfl) GivesTo.g (⟨congrArg Value.bool (decide_eq_true ((voted_ne hus).2 (.inl h25))).symm, rfl⟩)
  · refine TF_gy rfl rfl rfl rfl (Y_move rfl) ?_
    refine TF_gy rfl rfl rfl rfl (Y_nil_check rfl) ?_
    refine TF_gy rfl rfl rfl rfl (Y_field_addr rfl) ?_
    refine TF_gy rfl rfl rfl rfl (Y_load rfl rfl) ?_
    refine TF_gy rfl rfl rfl rfl (Y_move rfl) ?_
    refine TF_gy rfl rfl rfl rfl (Y_index_x (R := votedR) (xs := s.V) rfl rfl rfl hu) ?_
    refine TF_gy rfl rfl rfl rfl (Y_field_addr2 rfl) ?_
    refine TF_gy rfl rfl rfl rfl (Y_load_x_agg (vs := entryC u.en p0) rfl rfl) ?_
    refine TF_gy rfl rfl rfl rfl (Y_field_addr rfl) ?_
    refine TF_gy rfl rfl rfl rfl (Y_load_agg rfl rfl) ?_
    refine TF_anchor rfl ?_
    refine TL_grun rfl rfl ?_
    refine TL_call rfl rfl (sameEntry16_spec u.en v.en sln (SlN.of_gives GivesTo.g hk.n)) ?_
    rintro _ _ ⟨rfl, rfl⟩
    refine TF_end GivesTo.g ?_
    refine TF_gy rfl rfl rfl rfl (Y_not_d rfl) ?_
    refine TF_y rfl rfl (Y_pick_f rfl rfl) ?_
    refine TF_y rfl rfl (Y_assign rfl) ?_
    refine TF_nil ?_
    refine T_region_draw _ [0, 1, 3, 7, 0, 0, 63, 127] [7] [(0, true), (1, true), (2, true), (3, true), (4, true), (5, true), (6, true), (7, false)] (by kernel_rfl) (by decide +kernel) (Gives.refl _) ?_
    refine TF_y rfl rfl (Y_move rfl) ?_
    refine TF_y rfl rfl (Y_nil_check rfl) ?_
    refine TF_y rfl rfl (Y_field_addr rfl) ?_
    refine TF_y rfl rfl (Y_load rfl rfl) ?_
    refine TF_y rfl rfl (Y_move rfl) ?_
    refine TF_y rfl rfl (Y_load_agg rfl rfl) ?_
    refine TF_y rfl rfl (Y_index_x (R := votedR) (xs := s.V) rfl rfl rfl hu) ?_
    refine TF_anchor rfl ?_
    refine TL_store_x rfl rfl rfl rfl rfl rfl ?_
    refine TF_end_tail rfl ?_
    refine TF_nil ?_
    refine T_unx (R := votedR) g3 v (ex_rep q (sep_sl slk) hvo) ?_
    rw [show s.V.length = (s.V.set i v).length from (List.length_set ..).symm]
    rw [show putV s.V v = s.V.set i v from put_set hinc hu hus]
    refine T_gives (ra_close (A := some ⟨g3, 0, none⟩) (c := c) b ⟨s.node, s.prom, s.V.set i v⟩) ?_
    refine T_region ?_
    refine TL_y rfl rfl (Y_move rfl) ?_
    refine TL_y rfl rfl (Y_assign rfl) ?_
    refine TL_nil ?_
    refine T_ret ?_
    refine thenS_ret ?_
    exact RetG_1 (.inl rfl) rfl (ResV.tmp rfl) GivesTo.g (⟨congrArg Value.bool (decide_eq_decide.2 ⟨fun h => (voted_ne hus).2 (.inr h), fun h => by rcases (voted_ne hus).1 h with h | h; exact absurd h h25; exact h⟩), rfl⟩)
set_option maxRecDepth 20000 in
theorem refVote_none {L : List HP} {b : Nat} {s : AccD} (v : VotedD) (q : Option Addr × Nat) (hlen : s.V.length ≤ 4096) (hvo : votedOk v) (hk : SlK L (intR .i64) q.1 q.2 v.en.order.cut) (hn : getM (vmap s.V) v.slot = none) : Fn Tryz.prog 35 #[.pointer (some ⟨b, 0, none⟩), votV v q] (ra b s :: L) (fun r L' => r = .bool true ∧ L' = ra b ⟨s.node, s.prom, putV s.V v⟩ :: L) := by
  have hne := vmap_none.1 hn
  refine Fn_enter Tryz.func35 rfl rfl rfl rfl ?_
  refine T_gives (SlK.lay hk.tail) ?_
  refine T_region ?_
  refine TL_box rfl rfl rfl ?_
  intro b3
  refine TL_y rfl rfl (Y_assign rfl) ?_
  refine TL_nil ?_
  refine T_seq ?_
  refine T_region ?_
  refine TL_y rfl rfl (Y_move rfl) ?_
  refine TL_y rfl rfl (Y_field_addr rfl) ?_
  refine TL_y rfl rfl (Y_load rfl rfl) ?_
  refine TL_pullk b ?_
  refine TL_call rfl rfl (refFind16_spec v.slot) ?_
  rintro _ _ ⟨r, rfl, rfl, hr⟩
  have hri : r = -1 := (by rcases hr with ⟨h, _⟩ | ⟨j, w, _, h2, h3⟩; exact h; exact absurd h3 (hne w (List.mem_of_getElem? h2)))
  subst hri
  refine TL_y rfl rfl (Y_assign rfl) ?_
  refine TL_nil ?_
  refine T_region ?_
  refine TL_y rfl rfl (Y_move rfl) ?_
  refine TL_y rfl rfl (Y_ge rfl rfl) ?_
  refine TL_name 13 (v' := .bool false) rfl (congrArg Value.bool (decide_eq_false (by omega))) ?_
  refine TL_nil ?_
  refine T_cond_false rfl ?_
  refine T_skip ?_
  refine thenS_normal ?_
  refine T_pullk b ?_
  refine T_ra fun A c hlc => ?_
  simp only [maxEl] at hlc
  refine T_region ?_
  refine TL_y rfl rfl (Y_assign rfl) ?_
  refine TL_nil ?_
  refine T_seq ?_
  refine T_block ?_
  refine T_loopK (σ := Nat) [0, 3] (fun k => k ≤ s.V.length ∧ ∀ q ∈ s.V.take k, decide (q.slot < v.slot) = true) (fun k kv => (7, .int .i64 (k : Int)) :: kv) (fun k => cells b [.int .i64 s.node, .int .i64 s.prom.1, .int .i64 s.prom.2, .slice A s.V.length c] 41 :: osl votedR 64 A c s.V :: sl (intR .i64) q.1 q.2 v.en.order.cut :: cells b3 (votedC v q) 64 :: L) (fun k => s.V.length - k) (0) rfl (⟨Nat.zero_le _, by simp⟩) (GivesTo.g) (sub_cons rfl (sub_cons rfl (sub_cons rfl (sub_nil)))) ?_
  intro k hk3
  refine T_seq ?_
  refine Classical.byCases (p := k < s.V.length) (fun hlt => ?_) (fun hlt => ?_)
  · obtain ⟨u, hu⟩ : ∃ u, s.V[k]? = some u := ⟨_, List.getElem?_eq_getElem hlt⟩
    refine T_addr_n (sln (A := A) (c := c)) hu fun bq oq eq => ?_
    refine T_region_draw _ [0, 0, 2, 6, 14, 30, 63, 127, 255, 511, 1023, 2047, 255, 8191, 16383, 32767, 255, 65791, 262143, 524287] [] [(0, true), (1, true), (2, true), (3, true), (4, true), (5, true), (6, true), (7, true), (8, true), (9, true), (10, true), (11, true), (12, true), (13, true), (14, true), (15, true), (16, true), (17, true), (18, true), (19, true)] (by kernel_rfl) (by decide +kernel) (Gives.refl _) ?_
    refine TF_y rfl rfl (Y_move rfl) ?_
    refine TF_y rfl rfl (Y_move rfl) ?_
    refine TF_y rfl rfl (Y_nil_check rfl) ?_
    refine TF_y rfl rfl (Y_field_addr rfl) ?_
    refine TF_y rfl rfl (Y_load rfl rfl) ?_
    refine TF_y rfl rfl (Y_len rfl) ?_
    refine TF_y rfl rfl (Y_lt rfl rfl) ?_
    refine TF_name 53 (v' := .bool true) rfl (congrArg Value.bool (decide_eq_true (by omega))) ?_
    refine TF_y rfl rfl (Y_move rfl) ?_
    refine TF_gy rfl rfl rfl rfl (Y_move rfl) ?_
    refine TF_gy rfl rfl rfl rfl (Y_nil_check rfl) ?_
    refine TF_gy rfl rfl rfl rfl (Y_field_addr rfl) ?_
    refine TF_gy rfl rfl rfl rfl (Y_load rfl rfl) ?_
    refine TF_gy rfl rfl rfl rfl (Y_move rfl) ?_
    refine TF_gy rfl rfl rfl rfl (Y_index_n (R := votedR) (xs := s.V) (b := bq) (o := oq) (congrArg (fun z ↦ some (Value.slice z s.V.length c)) eq) rfl rfl hu) ?_
    refine TF_gy rfl rfl rfl rfl (Y_field_addr2 rfl) ?_
    refine TF_gy rfl rfl rfl rfl (Y_load_nx (xs := s.V) (b := bq) (o := oq) (c := c) (u := u) (v := .int .i64 u.slot) rfl (eq ▸ sln (A := A) (c := c)) hu (fun _ ↦ rfl)) ?_
    refine TF_gy rfl rfl rfl rfl (Y_field_addr rfl) ?_
    refine TF_gy rfl rfl rfl rfl (Y_load rfl rfl) ?_
    refine TF_gy rfl rfl rfl rfl (Y_lt rfl rfl) ?_
    refine TF_y rfl rfl (Y_pick_t rfl rfl) ?_
    refine TF_nil ?_
    refine T_if rfl (fun h66 => ?_) (fun h66 => ?_)
    · refine T_skip ?_
      refine thenS_normal ?_
      refine T_block ?_
      refine T_region_last ?_
      refine TL_y rfl rfl (Y_move rfl) ?_
      refine TL_y rfl rfl (Y_add rfl rfl (by omega)) ?_
      refine TL_name 68 (v' := .int .i64 ((k + 1 : Nat) : Int)) rfl (rfl) ?_
      refine TL_y rfl rfl (Y_assign rfl) ?_
      refine TL_nil ?_
      refine inB_normal ?_
      refine thenS_normal ?_
      exact ⟨k + 1, ⟨by omega, by rw [takeAt hu]; intro q hq; rcases List.mem_append.1 hq with h | h; exact hk3.2 q h; (simp at h; subst h; exact decide_eq_true h66)⟩, by omega, holds_to (sub_cons rfl (sub_cons rfl (sub_cons rfl (sub_nil)))) GivesTo.g⟩
    · refine T_exit ?_
      refine thenS_exit ?_
      refine thenS_exit ?_
      refine inB_hit ?_
      refine thenS_normal ?_
      have hpos : posW (fun p : VotedD => decide (p.slot < v.slot)) s.V = k := posW_eq hk3.1 hk3.2 (fun q hq => by rw [hu] at hq; cases hq; exact decide_eq_false h66)
      have hput : s.V.take k ++ v :: s.V.drop k = putV s.V v := by rw [put_none hn]; unfold insW; rw [hpos]
      have hkl := hk3.1
      have hpl : (putV s.V v).length = s.V.length + 1 := by rw [put_none hn]; exact insW_len _ _ _
      refine T_rd [0, 0, 0, 4, 12, 28, 0, 124, 254, 0, 512, 2046, 0, 4096, 12288, 28672, 0, 126976, 262142, 524287, 1048575, 2097151] (by kernel_rfl) (by decide +kernel) ?_
      refine RD_pair 1 10 (by decide) ?_ ?_
      · refine RD_pair 8 10 (by decide) ?_ ?_
        · refine RD_leaf (cells b [.int .i64 s.node, .int .i64 s.prom.1, .int .i64 s.prom.2, .slice A s.V.length c] 41 :: osl votedR 64 A c s.V :: sl (intR .i64) q.1 q.2 v.en.order.cut :: cells b3 (votedC v q) 64 :: []) [0, 0, 0, 4, 12, 28, 0, 124, 254, 0, 1022, 2046, 0, 4096, 12288, 28672, 0, 126976, 262142, 524287, 1048575, 2097151] [21] [(0, true), (2, true), (3, true), (4, true), (5, true), (6, true), (7, true), (9, true), (12, true), (13, true), (14, true), (15, true), (16, true), (17, true), (1, false), (8, false), (10, false), (11, false), (18, false), (19, true), (20, true), (21, false)] (by decide +kernel) GivesTo.g ?_
          refine TF_y rfl rfl (Y_move rfl) ?_
          refine TF_y rfl rfl (Y_move rfl) ?_
          refine TF_y rfl rfl (Y_nil_check rfl) ?_
          refine TF_y rfl rfl (Y_field_addr rfl) ?_
          refine TF_y rfl rfl (Y_load rfl rfl) ?_
          refine TF_y rfl rfl (Y_move rfl) ?_
          refine TF_y rfl rfl (Y_cut_h rfl rfl (by omega)) ?_
          refine TF_name 76 (v' := .slice A (s.V.take k).length c) rfl (by congr 1; rw [List.length_take]; omega) ?_
          refine TF_y rfl rfl (Y_load_agg rfl rfl) ?_
          refine TF_y rfl rfl (Y_move rfl) ?_
          refine TF_y rfl rfl (Y_nil_check rfl) ?_
          refine TF_y rfl rfl (Y_field_addr rfl) ?_
          refine TF_y rfl rfl (Y_load rfl rfl) ?_
          refine TF_y rfl rfl (Y_move rfl) ?_
          refine TF_y rfl rfl (Y_cut_l rfl rfl (by omega)) ?_
          refine TF_name 86 (v' := .slice (cutA A k c votedR.sz) (s.V.drop k).length (c - k)) rfl (by rw [List.length_drop]; rfl) ?_
          refine TF_anchor rfl ?_
          refine TL_build_slice rfl rfl rfl rfl rfl rfl ?_
          intro b70
          refine TL_osl (k := 0) votedR [] (Knows.const fun M => rfl) rfl (by simp) ?_
          refine TL_name 70 (v' := .slice (some ⟨b70, 0, none⟩) ([] : List VotedD).length 0) rfl rfl ?_
          refine TF_end GivesTo.g ?_
          refine TF_anchor rfl ?_
          refine TL_append_n (R := votedR) rfl rfl rfl rfl rfl ((sln (A := A) (c := c) (xs := s.V)).take k) (by simp only [List.length_nil, List.length_take]; omega) ?_
          intro A77 c77
          simp only [List.nil_append]
          refine TF_end GivesTo.g ?_
          refine TF_anchor rfl ?_
          refine TL_build_slice rfl rfl rfl rfl rfl rfl ?_
          intro b79
          refine TL_osl (k := 1) votedR [v] (cells_one' (ex_rep q (sep_sl slk) hvo)) rfl (by decide) ?_
          refine TL_freeze_osl ?_
          refine TL_name 79 (v' := .slice (some ⟨b79, 0, none⟩) [v].length 1) rfl rfl ?_
          refine TF_end GivesTo.g ?_
          refine TF_anchor rfl ?_
          refine TL_append rfl rfl rfl rfl rfl slk (by simp only [List.length_cons, List.length_nil, List.length_take]; omega) ?_
          intro A80 c80
          refine TF_end GivesTo.g ?_
          refine TF_anchor rfl ?_
          refine TL_append_n (R := votedR) rfl rfl rfl rfl rfl ((sln (A := A) (c := c) (xs := s.V)).dropc hkl hlc.1) (by simp only [List.length_append, List.length_cons, List.length_nil, List.length_take, List.length_drop]; omega) ?_
          intro A87 c87
          rw [show s.V.take k ++ [v] ++ s.V.drop k = putV s.V v by rw [← hput]; simp]
          refine TF_end GivesTo.g ?_
          refine TF_y rfl rfl (Y_nil_check rfl) ?_
          refine TF_y rfl rfl (Y_field_addr rfl) ?_
          refine TF_anchor rfl ?_
          refine TL_store rfl rfl rfl rfl rfl rfl ?_
          refine TF_end_tail rfl ?_
          refine TF_nil ?_
          refine thenS_normal ?_
          refine T_region ?_
          refine TL_y rfl rfl (Y_assign rfl) ?_
          refine TL_nil ?_
          refine T_ret ?_
          refine RetQ.gives (ra_close (A := A87) (c := c87) b ⟨s.node, s.prom, putV s.V v⟩) ?_
          exact RetG_1 (.inl rfl) rfl (ResV.tmp rfl) GivesTo.g (⟨rfl, rfl⟩)
        · refine RD_leaf (cells b [.int .i64 s.node, .int .i64 s.prom.1, .int .i64 s.prom.2, .slice A s.V.length c] 41 :: osl votedR 64 A c s.V :: sl (intR .i64) q.1 q.2 v.en.order.cut :: cells b3 (votedC v q) 64 :: []) [0, 0, 0, 4, 12, 28, 0, 124, 1790, 0, 514, 2046, 0, 4096, 12288, 28672, 0, 126976, 262142, 524287, 1048575, 2097151] [21] [(0, true), (2, true), (3, true), (4, true), (5, true), (6, true), (7, true), (9, true), (12, true), (13, true), (14, true), (15, true), (16, true), (17, true), (1, false), (10, false), (8, false), (11, false), (18, false), (19, true), (20, true), (21, false)] (by decide +kernel) GivesTo.g ?_
          refine TF_y rfl rfl (Y_move rfl) ?_
          refine TF_y rfl rfl (Y_move rfl) ?_
          refine TF_y rfl rfl (Y_nil_check rfl) ?_
          refine TF_y rfl rfl (Y_field_addr rfl) ?_
          refine TF_y rfl rfl (Y_load rfl rfl) ?_
          refine TF_y rfl rfl (Y_move rfl) ?_
          refine TF_y rfl rfl (Y_cut_h rfl rfl (by omega)) ?_
          refine TF_name 76 (v' := .slice A (s.V.take k).length c) rfl (by congr 1; rw [List.length_take]; omega) ?_
          refine TF_y rfl rfl (Y_load_agg rfl rfl) ?_
          refine TF_y rfl rfl (Y_move rfl) ?_
          refine TF_y rfl rfl (Y_nil_check rfl) ?_
          refine TF_y rfl rfl (Y_field_addr rfl) ?_
          refine TF_y rfl rfl (Y_load rfl rfl) ?_
          refine TF_y rfl rfl (Y_move rfl) ?_
          refine TF_y rfl rfl (Y_cut_l rfl rfl (by omega)) ?_
          refine TF_name 86 (v' := .slice (cutA A k c votedR.sz) (s.V.drop k).length (c - k)) rfl (by rw [List.length_drop]; rfl) ?_
          refine TF_anchor rfl ?_
          refine TL_build_slice rfl rfl rfl rfl rfl rfl ?_
          intro b70
          refine TL_osl (k := 0) votedR [] (Knows.const fun M => rfl) rfl (by simp) ?_
          refine TL_name 70 (v' := .slice (some ⟨b70, 0, none⟩) ([] : List VotedD).length 0) rfl rfl ?_
          refine TF_end GivesTo.g ?_
          refine TF_anchor rfl ?_
          refine TL_build_slice rfl rfl rfl rfl rfl rfl ?_
          intro b79
          refine TL_osl (k := 1) votedR [v] (cells_one' (ex_rep q (sep_sl slk) hvo)) rfl (by decide) ?_
          refine TL_freeze_osl ?_
          refine TL_name 79 (v' := .slice (some ⟨b79, 0, none⟩) [v].length 1) rfl rfl ?_
          refine TF_end GivesTo.g ?_
          refine TF_anchor rfl ?_
          refine TL_append_n (R := votedR) rfl rfl rfl rfl rfl ((sln (A := A) (c := c) (xs := s.V)).take k) (by simp only [List.length_nil, List.length_take]; omega) ?_
          intro A77 c77
          simp only [List.nil_append]
          refine TF_end GivesTo.g ?_
          refine TF_anchor rfl ?_
          refine TL_append rfl rfl rfl rfl rfl slk (by simp only [List.length_cons, List.length_nil, List.length_take]; omega) ?_
          intro A80 c80
          refine TF_end GivesTo.g ?_
          refine TF_anchor rfl ?_
          refine TL_append_n (R := votedR) rfl rfl rfl rfl rfl ((sln (A := A) (c := c) (xs := s.V)).dropc hkl hlc.1) (by simp only [List.length_append, List.length_cons, List.length_nil, List.length_take, List.length_drop]; omega) ?_
          intro A87 c87
          rw [show s.V.take k ++ [v] ++ s.V.drop k = putV s.V v by rw [← hput]; simp]
          refine TF_end GivesTo.g ?_
          refine TF_y rfl rfl (Y_nil_check rfl) ?_
          refine TF_y rfl rfl (Y_field_addr rfl) ?_
          refine TF_anchor rfl ?_
          refine TL_store rfl rfl rfl rfl rfl rfl ?_
          refine TF_end_tail rfl ?_
          refine TF_nil ?_
          refine thenS_normal ?_
          refine T_region ?_
          refine TL_y rfl rfl (Y_assign rfl) ?_
          refine TL_nil ?_
          refine T_ret ?_
          refine RetQ.gives (ra_close (A := A87) (c := c87) b ⟨s.node, s.prom, putV s.V v⟩) ?_
          exact RetG_1 (.inl rfl) rfl (ResV.tmp rfl) GivesTo.g (⟨rfl, rfl⟩)
      · refine RD_leaf (cells b [.int .i64 s.node, .int .i64 s.prom.1, .int .i64 s.prom.2, .slice A s.V.length c] 41 :: osl votedR 64 A c s.V :: sl (intR .i64) q.1 q.2 v.en.order.cut :: cells b3 (votedC v q) 64 :: []) [0, 1536, 0, 4, 12, 28, 0, 124, 1790, 0, 512, 2046, 0, 4096, 12288, 28672, 0, 126976, 262142, 524287, 1048575, 2097151] [21] [(0, true), (2, true), (3, true), (4, true), (5, true), (6, true), (7, true), (9, true), (12, true), (13, true), (14, true), (15, true), (16, true), (17, true), (10, false), (1, false), (8, false), (11, false), (18, false), (19, true), (20, true), (21, false)] (by decide +kernel) GivesTo.g ?_
        refine TF_y rfl rfl (Y_move rfl) ?_
        refine TF_y rfl rfl (Y_move rfl) ?_
        refine TF_y rfl rfl (Y_nil_check rfl) ?_
        refine TF_y rfl rfl (Y_field_addr rfl) ?_
        refine TF_y rfl rfl (Y_load rfl rfl) ?_
        refine TF_y rfl rfl (Y_move rfl) ?_
        refine TF_y rfl rfl (Y_cut_h rfl rfl (by omega)) ?_
        refine TF_name 76 (v' := .slice A (s.V.take k).length c) rfl (by congr 1; rw [List.length_take]; omega) ?_
        refine TF_y rfl rfl (Y_load_agg rfl rfl) ?_
        refine TF_y rfl rfl (Y_move rfl) ?_
        refine TF_y rfl rfl (Y_nil_check rfl) ?_
        refine TF_y rfl rfl (Y_field_addr rfl) ?_
        refine TF_y rfl rfl (Y_load rfl rfl) ?_
        refine TF_y rfl rfl (Y_move rfl) ?_
        refine TF_y rfl rfl (Y_cut_l rfl rfl (by omega)) ?_
        refine TF_name 86 (v' := .slice (cutA A k c votedR.sz) (s.V.drop k).length (c - k)) rfl (by rw [List.length_drop]; rfl) ?_
        refine TF_anchor rfl ?_
        refine TL_build_slice rfl rfl rfl rfl rfl rfl ?_
        intro b79
        refine TL_osl (k := 1) votedR [v] (cells_one' (ex_rep q (sep_sl slk) hvo)) rfl (by decide) ?_
        refine TL_freeze_osl ?_
        refine TL_name 79 (v' := .slice (some ⟨b79, 0, none⟩) [v].length 1) rfl rfl ?_
        refine TF_end GivesTo.g ?_
        refine TF_anchor rfl ?_
        refine TL_build_slice rfl rfl rfl rfl rfl rfl ?_
        intro b70
        refine TL_osl (k := 0) votedR [] (Knows.const fun M => rfl) rfl (by simp) ?_
        refine TL_name 70 (v' := .slice (some ⟨b70, 0, none⟩) ([] : List VotedD).length 0) rfl rfl ?_
        refine TF_end GivesTo.g ?_
        refine TF_anchor rfl ?_
        refine TL_append_n (R := votedR) rfl rfl rfl rfl rfl ((sln (A := A) (c := c) (xs := s.V)).take k) (by simp only [List.length_nil, List.length_take]; omega) ?_
        intro A77 c77
        simp only [List.nil_append]
        refine TF_end GivesTo.g ?_
        refine TF_anchor rfl ?_
        refine TL_append rfl rfl rfl rfl rfl slk (by simp only [List.length_cons, List.length_nil, List.length_take]; omega) ?_
        intro A80 c80
        refine TF_end GivesTo.g ?_
        refine TF_anchor rfl ?_
        refine TL_append_n (R := votedR) rfl rfl rfl rfl rfl ((sln (A := A) (c := c) (xs := s.V)).dropc hkl hlc.1) (by simp only [List.length_append, List.length_cons, List.length_nil, List.length_take, List.length_drop]; omega) ?_
        intro A87 c87
        rw [show s.V.take k ++ [v] ++ s.V.drop k = putV s.V v by rw [← hput]; simp]
        refine TF_end GivesTo.g ?_
        refine TF_y rfl rfl (Y_nil_check rfl) ?_
        refine TF_y rfl rfl (Y_field_addr rfl) ?_
        refine TF_anchor rfl ?_
        refine TL_store rfl rfl rfl rfl rfl rfl ?_
        refine TF_end_tail rfl ?_
        refine TF_nil ?_
        refine thenS_normal ?_
        refine T_region ?_
        refine TL_y rfl rfl (Y_assign rfl) ?_
        refine TL_nil ?_
        refine T_ret ?_
        refine RetQ.gives (ra_close (A := A87) (c := c87) b ⟨s.node, s.prom, putV s.V v⟩) ?_
        exact RetG_1 (.inl rfl) rfl (ResV.tmp rfl) GivesTo.g (⟨rfl, rfl⟩)
  · refine T_region_draw _ [0, 0, 2, 6, 14, 30, 63, 127, 255, 511, 1023, 2047, 255, 8191, 16383, 32767, 255, 65791, 262143, 524287] [] [(0, true), (1, true), (2, true), (3, true), (4, true), (5, true), (6, true), (7, true), (8, true), (9, true), (10, true), (11, true), (12, true), (13, true), (14, true), (15, true), (16, true), (17, true), (18, true), (19, true)] (by kernel_rfl) (by decide +kernel) (Gives.refl _) ?_
    refine TF_y rfl rfl (Y_move rfl) ?_
    refine TF_y rfl rfl (Y_move rfl) ?_
    refine TF_y rfl rfl (Y_nil_check rfl) ?_
    refine TF_y rfl rfl (Y_field_addr rfl) ?_
    refine TF_y rfl rfl (Y_load rfl rfl) ?_
    refine TF_y rfl rfl (Y_len rfl) ?_
    refine TF_y rfl rfl (Y_lt rfl rfl) ?_
    refine TF_name 53 (v' := .bool false) rfl (congrArg Value.bool (decide_eq_false (by omega))) ?_
    refine TF_y rfl rfl (Y_move rfl) ?_
    refine TF_gskip rfl rfl rfl rfl rfl ?_
    refine TF_gskip rfl rfl rfl rfl rfl ?_
    refine TF_gskip rfl rfl rfl rfl rfl ?_
    refine TF_gskip rfl rfl rfl rfl rfl ?_
    refine TF_gskip rfl rfl rfl rfl rfl ?_
    refine TF_gskip rfl rfl rfl rfl rfl ?_
    refine TF_gskip rfl rfl rfl rfl rfl ?_
    refine TF_gskip rfl rfl rfl rfl rfl ?_
    refine TF_gskip rfl rfl rfl rfl rfl ?_
    refine TF_gskip rfl rfl rfl rfl rfl ?_
    refine TF_gskip rfl rfl rfl rfl rfl ?_
    refine TF_y rfl rfl (Y_pick_f rfl rfl) ?_
    refine TF_nil ?_
    refine T_cond_false rfl ?_
    refine T_exit ?_
    refine thenS_exit ?_
    refine thenS_exit ?_
    refine inB_hit ?_
    refine thenS_normal ?_
    have hpos : posW (fun p : VotedD => decide (p.slot < v.slot)) s.V = k := posW_eq hk3.1 hk3.2 (fun q hq => by have := (List.getElem?_eq_some_iff.1 hq).1; omega)
    have hput : s.V.take k ++ v :: s.V.drop k = putV s.V v := by rw [put_none hn]; unfold insW; rw [hpos]
    have hkl := hk3.1
    have hpl : (putV s.V v).length = s.V.length + 1 := by rw [put_none hn]; exact insW_len _ _ _
    refine T_rd [0, 0, 0, 4, 12, 28, 0, 124, 254, 0, 512, 2046, 0, 4096, 12288, 28672, 0, 126976, 262142, 524287, 1048575, 2097151] (by kernel_rfl) (by decide +kernel) ?_
    refine RD_pair 1 10 (by decide) ?_ ?_
    · refine RD_pair 8 10 (by decide) ?_ ?_
      · refine RD_leaf (cells b [.int .i64 s.node, .int .i64 s.prom.1, .int .i64 s.prom.2, .slice A s.V.length c] 41 :: osl votedR 64 A c s.V :: sl (intR .i64) q.1 q.2 v.en.order.cut :: cells b3 (votedC v q) 64 :: []) [0, 0, 0, 4, 12, 28, 0, 124, 254, 0, 1022, 2046, 0, 4096, 12288, 28672, 0, 126976, 262142, 524287, 1048575, 2097151] [21] [(0, true), (2, true), (3, true), (4, true), (5, true), (6, true), (7, true), (9, true), (12, true), (13, true), (14, true), (15, true), (16, true), (17, true), (1, false), (8, false), (10, false), (11, false), (18, false), (19, true), (20, true), (21, false)] (by decide +kernel) GivesTo.g ?_
        refine TF_y rfl rfl (Y_move rfl) ?_
        refine TF_y rfl rfl (Y_move rfl) ?_
        refine TF_y rfl rfl (Y_nil_check rfl) ?_
        refine TF_y rfl rfl (Y_field_addr rfl) ?_
        refine TF_y rfl rfl (Y_load rfl rfl) ?_
        refine TF_y rfl rfl (Y_move rfl) ?_
        refine TF_y rfl rfl (Y_cut_h rfl rfl (by omega)) ?_
        refine TF_name 76 (v' := .slice A (s.V.take k).length c) rfl (by congr 1; rw [List.length_take]; omega) ?_
        refine TF_y rfl rfl (Y_load_agg rfl rfl) ?_
        refine TF_y rfl rfl (Y_move rfl) ?_
        refine TF_y rfl rfl (Y_nil_check rfl) ?_
        refine TF_y rfl rfl (Y_field_addr rfl) ?_
        refine TF_y rfl rfl (Y_load rfl rfl) ?_
        refine TF_y rfl rfl (Y_move rfl) ?_
        refine TF_y rfl rfl (Y_cut_l rfl rfl (by omega)) ?_
        refine TF_name 86 (v' := .slice (cutA A k c votedR.sz) (s.V.drop k).length (c - k)) rfl (by rw [List.length_drop]; rfl) ?_
        refine TF_anchor rfl ?_
        refine TL_build_slice rfl rfl rfl rfl rfl rfl ?_
        intro b70
        refine TL_osl (k := 0) votedR [] (Knows.const fun M => rfl) rfl (by simp) ?_
        refine TL_name 70 (v' := .slice (some ⟨b70, 0, none⟩) ([] : List VotedD).length 0) rfl rfl ?_
        refine TF_end GivesTo.g ?_
        refine TF_anchor rfl ?_
        refine TL_append_n (R := votedR) rfl rfl rfl rfl rfl ((sln (A := A) (c := c) (xs := s.V)).take k) (by simp only [List.length_nil, List.length_take]; omega) ?_
        intro A77 c77
        simp only [List.nil_append]
        refine TF_end GivesTo.g ?_
        refine TF_anchor rfl ?_
        refine TL_build_slice rfl rfl rfl rfl rfl rfl ?_
        intro b79
        refine TL_osl (k := 1) votedR [v] (cells_one' (ex_rep q (sep_sl slk) hvo)) rfl (by decide) ?_
        refine TL_freeze_osl ?_
        refine TL_name 79 (v' := .slice (some ⟨b79, 0, none⟩) [v].length 1) rfl rfl ?_
        refine TF_end GivesTo.g ?_
        refine TF_anchor rfl ?_
        refine TL_append rfl rfl rfl rfl rfl slk (by simp only [List.length_cons, List.length_nil, List.length_take]; omega) ?_
        intro A80 c80
        refine TF_end GivesTo.g ?_
        refine TF_anchor rfl ?_
        refine TL_append_n (R := votedR) rfl rfl rfl rfl rfl ((sln (A := A) (c := c) (xs := s.V)).dropc hkl hlc.1) (by simp only [List.length_append, List.length_cons, List.length_nil, List.length_take, List.length_drop]; omega) ?_
        intro A87 c87
        rw [show s.V.take k ++ [v] ++ s.V.drop k = putV s.V v by rw [← hput]; simp]
        refine TF_end GivesTo.g ?_
        refine TF_y rfl rfl (Y_nil_check rfl) ?_
        refine TF_y rfl rfl (Y_field_addr rfl) ?_
        refine TF_anchor rfl ?_
        refine TL_store rfl rfl rfl rfl rfl rfl ?_
        refine TF_end_tail rfl ?_
        refine TF_nil ?_
        refine thenS_normal ?_
        refine T_region ?_
        refine TL_y rfl rfl (Y_assign rfl) ?_
        refine TL_nil ?_
        refine T_ret ?_
        refine RetQ.gives (ra_close (A := A87) (c := c87) b ⟨s.node, s.prom, putV s.V v⟩) ?_
        exact RetG_1 (.inl rfl) rfl (ResV.tmp rfl) GivesTo.g (⟨rfl, rfl⟩)
      · refine RD_leaf (cells b [.int .i64 s.node, .int .i64 s.prom.1, .int .i64 s.prom.2, .slice A s.V.length c] 41 :: osl votedR 64 A c s.V :: sl (intR .i64) q.1 q.2 v.en.order.cut :: cells b3 (votedC v q) 64 :: []) [0, 0, 0, 4, 12, 28, 0, 124, 1790, 0, 514, 2046, 0, 4096, 12288, 28672, 0, 126976, 262142, 524287, 1048575, 2097151] [21] [(0, true), (2, true), (3, true), (4, true), (5, true), (6, true), (7, true), (9, true), (12, true), (13, true), (14, true), (15, true), (16, true), (17, true), (1, false), (10, false), (8, false), (11, false), (18, false), (19, true), (20, true), (21, false)] (by decide +kernel) GivesTo.g ?_
        refine TF_y rfl rfl (Y_move rfl) ?_
        refine TF_y rfl rfl (Y_move rfl) ?_
        refine TF_y rfl rfl (Y_nil_check rfl) ?_
        refine TF_y rfl rfl (Y_field_addr rfl) ?_
        refine TF_y rfl rfl (Y_load rfl rfl) ?_
        refine TF_y rfl rfl (Y_move rfl) ?_
        refine TF_y rfl rfl (Y_cut_h rfl rfl (by omega)) ?_
        refine TF_name 76 (v' := .slice A (s.V.take k).length c) rfl (by congr 1; rw [List.length_take]; omega) ?_
        refine TF_y rfl rfl (Y_load_agg rfl rfl) ?_
        refine TF_y rfl rfl (Y_move rfl) ?_
        refine TF_y rfl rfl (Y_nil_check rfl) ?_
        refine TF_y rfl rfl (Y_field_addr rfl) ?_
        refine TF_y rfl rfl (Y_load rfl rfl) ?_
        refine TF_y rfl rfl (Y_move rfl) ?_
        refine TF_y rfl rfl (Y_cut_l rfl rfl (by omega)) ?_
        refine TF_name 86 (v' := .slice (cutA A k c votedR.sz) (s.V.drop k).length (c - k)) rfl (by rw [List.length_drop]; rfl) ?_
        refine TF_anchor rfl ?_
        refine TL_build_slice rfl rfl rfl rfl rfl rfl ?_
        intro b70
        refine TL_osl (k := 0) votedR [] (Knows.const fun M => rfl) rfl (by simp) ?_
        refine TL_name 70 (v' := .slice (some ⟨b70, 0, none⟩) ([] : List VotedD).length 0) rfl rfl ?_
        refine TF_end GivesTo.g ?_
        refine TF_anchor rfl ?_
        refine TL_build_slice rfl rfl rfl rfl rfl rfl ?_
        intro b79
        refine TL_osl (k := 1) votedR [v] (cells_one' (ex_rep q (sep_sl slk) hvo)) rfl (by decide) ?_
        refine TL_freeze_osl ?_
        refine TL_name 79 (v' := .slice (some ⟨b79, 0, none⟩) [v].length 1) rfl rfl ?_
        refine TF_end GivesTo.g ?_
        refine TF_anchor rfl ?_
        refine TL_append_n (R := votedR) rfl rfl rfl rfl rfl ((sln (A := A) (c := c) (xs := s.V)).take k) (by simp only [List.length_nil, List.length_take]; omega) ?_
        intro A77 c77
        simp only [List.nil_append]
        refine TF_end GivesTo.g ?_
        refine TF_anchor rfl ?_
        refine TL_append rfl rfl rfl rfl rfl slk (by simp only [List.length_cons, List.length_nil, List.length_take]; omega) ?_
        intro A80 c80
        refine TF_end GivesTo.g ?_
        refine TF_anchor rfl ?_
        refine TL_append_n (R := votedR) rfl rfl rfl rfl rfl ((sln (A := A) (c := c) (xs := s.V)).dropc hkl hlc.1) (by simp only [List.length_append, List.length_cons, List.length_nil, List.length_take, List.length_drop]; omega) ?_
        intro A87 c87
        rw [show s.V.take k ++ [v] ++ s.V.drop k = putV s.V v by rw [← hput]; simp]
        refine TF_end GivesTo.g ?_
        refine TF_y rfl rfl (Y_nil_check rfl) ?_
        refine TF_y rfl rfl (Y_field_addr rfl) ?_
        refine TF_anchor rfl ?_
        refine TL_store rfl rfl rfl rfl rfl rfl ?_
        refine TF_end_tail rfl ?_
        refine TF_nil ?_
        refine thenS_normal ?_
        refine T_region ?_
        refine TL_y rfl rfl (Y_assign rfl) ?_
        refine TL_nil ?_
        refine T_ret ?_
        refine RetQ.gives (ra_close (A := A87) (c := c87) b ⟨s.node, s.prom, putV s.V v⟩) ?_
        exact RetG_1 (.inl rfl) rfl (ResV.tmp rfl) GivesTo.g (⟨rfl, rfl⟩)
    · refine RD_leaf (cells b [.int .i64 s.node, .int .i64 s.prom.1, .int .i64 s.prom.2, .slice A s.V.length c] 41 :: osl votedR 64 A c s.V :: sl (intR .i64) q.1 q.2 v.en.order.cut :: cells b3 (votedC v q) 64 :: []) [0, 1536, 0, 4, 12, 28, 0, 124, 1790, 0, 512, 2046, 0, 4096, 12288, 28672, 0, 126976, 262142, 524287, 1048575, 2097151] [21] [(0, true), (2, true), (3, true), (4, true), (5, true), (6, true), (7, true), (9, true), (12, true), (13, true), (14, true), (15, true), (16, true), (17, true), (10, false), (1, false), (8, false), (11, false), (18, false), (19, true), (20, true), (21, false)] (by decide +kernel) GivesTo.g ?_
      refine TF_y rfl rfl (Y_move rfl) ?_
      refine TF_y rfl rfl (Y_move rfl) ?_
      refine TF_y rfl rfl (Y_nil_check rfl) ?_
      refine TF_y rfl rfl (Y_field_addr rfl) ?_
      refine TF_y rfl rfl (Y_load rfl rfl) ?_
      refine TF_y rfl rfl (Y_move rfl) ?_
      refine TF_y rfl rfl (Y_cut_h rfl rfl (by omega)) ?_
      refine TF_name 76 (v' := .slice A (s.V.take k).length c) rfl (by congr 1; rw [List.length_take]; omega) ?_
      refine TF_y rfl rfl (Y_load_agg rfl rfl) ?_
      refine TF_y rfl rfl (Y_move rfl) ?_
      refine TF_y rfl rfl (Y_nil_check rfl) ?_
      refine TF_y rfl rfl (Y_field_addr rfl) ?_
      refine TF_y rfl rfl (Y_load rfl rfl) ?_
      refine TF_y rfl rfl (Y_move rfl) ?_
      refine TF_y rfl rfl (Y_cut_l rfl rfl (by omega)) ?_
      refine TF_name 86 (v' := .slice (cutA A k c votedR.sz) (s.V.drop k).length (c - k)) rfl (by rw [List.length_drop]; rfl) ?_
      refine TF_anchor rfl ?_
      refine TL_build_slice rfl rfl rfl rfl rfl rfl ?_
      intro b79
      refine TL_osl (k := 1) votedR [v] (cells_one' (ex_rep q (sep_sl slk) hvo)) rfl (by decide) ?_
      refine TL_freeze_osl ?_
      refine TL_name 79 (v' := .slice (some ⟨b79, 0, none⟩) [v].length 1) rfl rfl ?_
      refine TF_end GivesTo.g ?_
      refine TF_anchor rfl ?_
      refine TL_build_slice rfl rfl rfl rfl rfl rfl ?_
      intro b70
      refine TL_osl (k := 0) votedR [] (Knows.const fun M => rfl) rfl (by simp) ?_
      refine TL_name 70 (v' := .slice (some ⟨b70, 0, none⟩) ([] : List VotedD).length 0) rfl rfl ?_
      refine TF_end GivesTo.g ?_
      refine TF_anchor rfl ?_
      refine TL_append_n (R := votedR) rfl rfl rfl rfl rfl ((sln (A := A) (c := c) (xs := s.V)).take k) (by simp only [List.length_nil, List.length_take]; omega) ?_
      intro A77 c77
      simp only [List.nil_append]
      refine TF_end GivesTo.g ?_
      refine TF_anchor rfl ?_
      refine TL_append rfl rfl rfl rfl rfl slk (by simp only [List.length_cons, List.length_nil, List.length_take]; omega) ?_
      intro A80 c80
      refine TF_end GivesTo.g ?_
      refine TF_anchor rfl ?_
      refine TL_append_n (R := votedR) rfl rfl rfl rfl rfl ((sln (A := A) (c := c) (xs := s.V)).dropc hkl hlc.1) (by simp only [List.length_append, List.length_cons, List.length_nil, List.length_take, List.length_drop]; omega) ?_
      intro A87 c87
      rw [show s.V.take k ++ [v] ++ s.V.drop k = putV s.V v by rw [← hput]; simp]
      refine TF_end GivesTo.g ?_
      refine TF_y rfl rfl (Y_nil_check rfl) ?_
      refine TF_y rfl rfl (Y_field_addr rfl) ?_
      refine TF_anchor rfl ?_
      refine TL_store rfl rfl rfl rfl rfl rfl ?_
      refine TF_end_tail rfl ?_
      refine TF_nil ?_
      refine thenS_normal ?_
      refine T_region ?_
      refine TL_y rfl rfl (Y_assign rfl) ?_
      refine TL_nil ?_
      refine T_ret ?_
      refine RetQ.gives (ra_close (A := A87) (c := c87) b ⟨s.node, s.prom, putV s.V v⟩) ?_
      exact RetG_1 (.inl rfl) rfl (ResV.tmp rfl) GivesTo.g (⟨rfl, rfl⟩)
theorem refVote_spec {L : List HP} {b : Nat} {s : AccD} (v : VotedD) (q : Option Addr × Nat) (hinc : IncV s.V) (hlen : s.V.length ≤ 4096) (hvo : votedOk v) (hk : SlK L (intR .i64) q.1 q.2 v.en.order.cut) : Fn Tryz.prog 35 #[.pointer (some ⟨b, 0, none⟩), votV v q] (ra b s :: L) (fun r L' => r = .bool (decide (getM (vmap s.V) v.slot ≠ some v)) ∧ L' = ra b ⟨s.node, s.prom, putV s.V v⟩ :: L) := by
  cases hg : getM (vmap s.V) v.slot with
  | none => exact (refVote_none v q hlen hvo hk hg).cases_ fun r L' h => ⟨by rw [h.1, decide_eq_true]; simp, h.2⟩
  | some u =>
    obtain ⟨h1, h2⟩ := vmap_get hg
    obtain ⟨i, hi⟩ := List.getElem?_of_mem h1
    exact (refVote_some v q hinc hlen hvo hk hi h2).cases_ fun r L' h => ⟨by rw [h.1]; exact congrArg Value.bool (decide_eq_decide.2 (by simp)), h.2⟩
end Go.SL
set_option linter.unusedVariables false
set_option linter.unusedSimpArgs false
namespace Go.SL
open Go Go.Proofs
def fullA (s : AccD) (m : MsgD) : Prop := m.kind = 3 ∧ getM (vmap s.V) m.slot = none ∧ 4096 ≤ s.V.length
instance (s : AccD) (m : MsgD) : Decidable (fullA s m) := by unfold fullA; exact inferInstance
abbrev raC (s : AccD) (A : Option Addr) (c : Nat) : List Value := [.int .i64 s.node, .int .i64 s.prom.1, .int .i64 s.prom.2, .slice A s.V.length c]
theorem refOn_bad {L : List HP} {b : Nat} {s : AccD} (m : MsgD) (p : MsgP) (hx : MsgOk m) (hk : MsgK L m p) (hm : ¬ mineA s m) : Fn Tryz.prog 17 #[.pointer (some ⟨b, 0, none⟩), msgV m p] (ra b s :: L) (fun v L' => ∃ q, v = .tuple #[msgV (repA s m) q, .string (recA s m), .bool (decide (mineA s m))] ∧ L' = mL (repA s m) q (ra b (stA s m) :: L)) := by
  have e1 : repA s m = msg0 := by unfold repA; rw [if_neg hm]
  have e2 : recA s m = ⟨#[]⟩ := by unfold recA; rw [if_neg (fun h => hm h.1)]
  have e3 : stA s m = s := by unfold stA; rw [if_neg (fun h => hm h.1)]
  rw [e1, e2, e3, decide_eq_false hm]
  refine Fn_enter Tryz.func17 rfl rfl rfl rfl ?_
  refine T_region ?_
  refine TL_box rfl rfl rfl ?_
  intro b3
  refine TL_alloc rfl rfl ?_
  intro b4
  refine TL_y rfl rfl (Y_assign rfl) ?_
  refine TL_y rfl rfl (Y_assign rfl) ?_
  refine TL_nil ?_
  refine T_region ?_
  refine TL_y rfl rfl (Y_load_agg rfl rfl) ?_
  refine TL_call rfl rfl (refMsg_spec m p hx hk.tail.tail.tail) ?_
  rintro _ _ ⟨A14, c14, rfl, rfl⟩
  refine TL_y rfl rfl (Y_move rfl) ?_
  refine TL_y rfl rfl (Y_extract rfl rfl) ?_
  refine TL_y rfl rfl (Y_extract rfl rfl) ?_
  refine TL_y rfl rfl (Y_assign rfl) ?_
  refine TL_y rfl rfl (Y_assign rfl) ?_
  refine TL_nil ?_
  refine T_seq ?_
  refine T_pullk b ?_
  refine T_ra fun A c hlc => ?_
  refine T_region_draw _ [0, 1, 3, 7, 15, 7, 39, 103, 231, 511, 1023, 2047, 4095, 8191, 16383, 32767, 65535, 131071, 262143, 524287, 1048575] [] [(0, true), (1, true), (2, true), (3, true), (4, true), (5, true), (6, true), (7, true), (8, true), (9, true), (10, true), (11, true), (12, true), (13, true), (14, true), (15, true), (16, true), (17, true), (18, true), (19, true), (20, true)] (by kernel_rfl) (by decide +kernel) (Gives.refl _) ?_
  refine TF_y rfl rfl (Y_move rfl) ?_
  refine TF_y rfl rfl (Y_ne rfl rfl) ?_
  refine TF_y rfl rfl (Y_move rfl) ?_
  refine TF_splitd 19 rfl (fun h19 => ?_) (fun h19 => ?_)
  · refine TF_gskip rfl rfl rfl rfl rfl ?_
    refine TF_gskip rfl rfl rfl rfl rfl ?_
    refine TF_gskip rfl rfl rfl rfl rfl ?_
    refine TF_gskip rfl rfl rfl rfl rfl ?_
    refine TF_gskip rfl rfl rfl rfl rfl ?_
    refine TF_gskip rfl rfl rfl rfl rfl ?_
    refine TF_gskip rfl rfl rfl rfl rfl ?_
    refine TF_y rfl rfl (Y_pick_t rfl rfl) ?_
    refine TF_y rfl rfl (Y_move rfl) ?_
    refine TF_gskip rfl rfl rfl rfl rfl ?_
    refine TF_gskip rfl rfl rfl rfl rfl ?_
    refine TF_gskip rfl rfl rfl rfl rfl ?_
    refine TF_gskip rfl rfl rfl rfl rfl ?_
    refine TF_gskip_u rfl rfl rfl rfl ?_
    refine TF_gskip_u rfl rfl rfl rfl ?_
    refine TF_gskip_u rfl rfl rfl rfl ?_
    refine TF_gskip rfl rfl rfl rfl rfl ?_
    refine TF_y rfl rfl (Y_pick_t rfl rfl) ?_
    refine TF_nil ?_
    refine T_cond_true rfl ?_
    refine T_region ?_
    refine TL_y rfl rfl (Y_build rfl rfl) ?_
    refine TL_store rfl rfl rfl rfl rfl rfl ?_
    refine TL_y rfl rfl (Y_assign rfl) ?_
    refine TL_y rfl rfl (Y_assign rfl) ?_
    refine TL_nil ?_
    refine T_ret ?_
    refine thenS_ret ?_
    refine RetQ.gives (ra_close (A := A) (c := c) b s) ?_
    refine RetQ.gives (mL_nil (m := msg0) rfl rfl rfl rfl) ?_
    exact RetG_3 (.inl rfl) rfl (ResV.agg rfl rfl) (ResV.tmp rfl) (ResV.tmp rfl) GivesTo.g (⟨mP0, rfl, rfl⟩)
  · refine TF_gy rfl rfl rfl rfl (Y_field_addr rfl) ?_
    refine TF_gy rfl rfl rfl rfl (Y_load rfl rfl) ?_
    refine TF_gy rfl rfl rfl rfl (Y_move rfl) ?_
    refine TF_gy rfl rfl rfl rfl (Y_nil_check rfl) ?_
    refine TF_gy rfl rfl rfl rfl (Y_field_addr rfl) ?_
    refine TF_gy rfl rfl rfl rfl (Y_load rfl rfl) ?_
    refine TF_gy rfl rfl rfl rfl (Y_ne rfl rfl) ?_
    refine TF_y rfl rfl (Y_pick_f rfl rfl) ?_
    refine TF_y rfl rfl (Y_move rfl) ?_
    refine TF_splitd 28 rfl (fun h28 => ?_) (fun h28 => ?_)
    · refine TF_gskip rfl rfl rfl rfl rfl ?_
      refine TF_gskip rfl rfl rfl rfl rfl ?_
      refine TF_gskip rfl rfl rfl rfl rfl ?_
      refine TF_gskip rfl rfl rfl rfl rfl ?_
      refine TF_gskip_u rfl rfl rfl rfl ?_
      refine TF_gskip_u rfl rfl rfl rfl ?_
      refine TF_gskip_u rfl rfl rfl rfl ?_
      refine TF_gskip rfl rfl rfl rfl rfl ?_
      refine TF_y rfl rfl (Y_pick_t rfl rfl) ?_
      refine TF_nil ?_
      refine T_cond_true rfl ?_
      refine T_region ?_
      refine TL_y rfl rfl (Y_build rfl rfl) ?_
      refine TL_store rfl rfl rfl rfl rfl rfl ?_
      refine TL_y rfl rfl (Y_assign rfl) ?_
      refine TL_y rfl rfl (Y_assign rfl) ?_
      refine TL_nil ?_
      refine T_ret ?_
      refine thenS_ret ?_
      refine RetQ.gives (ra_close (A := A) (c := c) b s) ?_
      refine RetQ.gives (mL_nil (m := msg0) rfl rfl rfl rfl) ?_
      exact RetG_3 (.inl rfl) rfl (ResV.agg rfl rfl) (ResV.tmp rfl) (ResV.tmp rfl) GivesTo.g (⟨mP0, rfl, rfl⟩)
    · refine TF_gy rfl rfl rfl rfl (Y_field_addr rfl) ?_
      refine TF_gy rfl rfl rfl rfl (Y_load rfl rfl) ?_
      refine TF_gy rfl rfl rfl rfl (Y_ne rfl rfl) ?_
      refine TF_name 31 (v' := .bool true) rfl (congrArg Value.bool (decide_eq_true (by unfold mineA at hm; omega))) ?_
      refine TF_gy rfl rfl rfl rfl (Y_move rfl) ?_
      refine TF_gy rfl rfl rfl rfl (Y_field_addr rfl) ?_
      refine TF_gy rfl rfl rfl rfl (Y_load rfl rfl) ?_
      refine TF_gy rfl rfl rfl rfl (Y_ne rfl rfl) ?_
      refine TF_name 35 (v' := .bool true) rfl (congrArg Value.bool (decide_eq_true (by unfold mineA at hm; omega))) ?_
      refine TF_gy rfl rfl rfl rfl (Y_pick_t rfl rfl) ?_
      refine TF_y rfl rfl (Y_pick_f rfl rfl) ?_
      refine TF_nil ?_
      refine T_cond_true rfl ?_
      refine T_region ?_
      refine TL_y rfl rfl (Y_build rfl rfl) ?_
      refine TL_store rfl rfl rfl rfl rfl rfl ?_
      refine TL_y rfl rfl (Y_assign rfl) ?_
      refine TL_y rfl rfl (Y_assign rfl) ?_
      refine TL_nil ?_
      refine T_ret ?_
      refine thenS_ret ?_
      refine RetQ.gives (ra_close (A := A) (c := c) b s) ?_
      refine RetQ.gives (mL_nil (m := msg0) rfl rfl rfl rfl) ?_
      exact RetG_3 (.inl rfl) rfl (ResV.agg rfl rfl) (ResV.tmp rfl) (ResV.tmp rfl) GivesTo.g (⟨mP0, rfl, rfl⟩)
set_option maxRecDepth 20000 in
theorem refOn_nack {L : List HP} {b : Nat} {s : AccD} (m : MsgD) (p : MsgP) (hx : MsgOk m) (hk : MsgK L m p) (hm : mineA s m) (hn : nackA s m) : Fn Tryz.prog 17 #[.pointer (some ⟨b, 0, none⟩), msgV m p] (ra b s :: L) (fun v L' => ∃ q, v = .tuple #[msgV (repA s m) q, .string (recA s m), .bool (decide (mineA s m))] ∧ L' = mL (repA s m) q (ra b (stA s m) :: L)) := by
  have e1 : repA s m = repM s m 5 s.prom [] := by unfold repA; rw [if_pos hm, if_pos hn]
  have e2 : recA s m = ⟨#[]⟩ := by unfold recA; rw [if_neg (fun h => h.2.1 hn)]
  have e3 : stA s m = s := by unfold stA; rw [if_neg (fun h => h.2 hn)]
  rw [e1, e2, e3, decide_eq_true hm]
  refine Fn_enter Tryz.func17 rfl rfl rfl rfl ?_
  refine T_region ?_
  refine TL_box rfl rfl rfl ?_
  intro b3
  refine TL_alloc rfl rfl ?_
  intro b4
  refine TL_y rfl rfl (Y_assign rfl) ?_
  refine TL_y rfl rfl (Y_assign rfl) ?_
  refine TL_nil ?_
  refine T_region ?_
  refine TL_y rfl rfl (Y_load_agg rfl rfl) ?_
  refine TL_call rfl rfl (refMsg_spec m p hx hk.tail.tail.tail) ?_
  rintro _ _ ⟨A14, c14, rfl, rfl⟩
  refine TL_y rfl rfl (Y_move rfl) ?_
  refine TL_y rfl rfl (Y_extract rfl rfl) ?_
  refine TL_y rfl rfl (Y_extract rfl rfl) ?_
  refine TL_y rfl rfl (Y_assign rfl) ?_
  refine TL_y rfl rfl (Y_assign rfl) ?_
  refine TL_nil ?_
  refine T_seq ?_
  refine T_pullk b ?_
  refine T_ra fun A c hlc => ?_
  refine T_region_draw _ [0, 1, 3, 7, 15, 7, 39, 103, 231, 511, 1023, 2047, 4095, 8191, 16383, 32767, 65535, 131071, 262143, 524287, 1048575] [] [(0, true), (1, true), (2, true), (3, true), (4, true), (5, true), (6, true), (7, true), (8, true), (9, true), (10, true), (11, true), (12, true), (13, true), (14, true), (15, true), (16, true), (17, true), (18, true), (19, true), (20, true)] (by kernel_rfl) (by decide +kernel) (Gives.refl _) ?_
  refine TF_y rfl rfl (Y_move rfl) ?_
  refine TF_y rfl rfl (Y_ne rfl rfl) ?_
  refine TF_name 18 (v' := .bool false) rfl (congrArg Value.bool (decide_eq_false (by have := hm.1; omega))) ?_
  refine TF_y rfl rfl (Y_move rfl) ?_
  refine TF_gy rfl rfl rfl rfl (Y_field_addr rfl) ?_
  refine TF_gy rfl rfl rfl rfl (Y_load rfl rfl) ?_
  refine TF_gy rfl rfl rfl rfl (Y_move rfl) ?_
  refine TF_gy rfl rfl rfl rfl (Y_nil_check rfl) ?_
  refine TF_gy rfl rfl rfl rfl (Y_field_addr rfl) ?_
  refine TF_gy rfl rfl rfl rfl (Y_load rfl rfl) ?_
  refine TF_gy rfl rfl rfl rfl (Y_ne rfl rfl) ?_
  refine TF_name 26 (v' := .bool false) rfl (congrArg Value.bool (decide_eq_false (by have := hm.2.1; omega))) ?_
  refine TF_y rfl rfl (Y_pick_f rfl rfl) ?_
  refine TF_y rfl rfl (Y_move rfl) ?_
  refine TF_gy rfl rfl rfl rfl (Y_field_addr rfl) ?_
  refine TF_gy rfl rfl rfl rfl (Y_load rfl rfl) ?_
  refine TF_gy rfl rfl rfl rfl (Y_ne rfl rfl) ?_
  refine TF_gy rfl rfl rfl rfl (Y_move rfl) ?_
  refine TF_splitd 32 rfl (fun h32 => ?_) (fun h32 => ?_)
  · refine TF_gy rfl rfl rfl rfl (Y_field_addr rfl) ?_
    refine TF_gy rfl rfl rfl rfl (Y_load rfl rfl) ?_
    refine TF_gy rfl rfl rfl rfl (Y_ne rfl rfl) ?_
    refine TF_name 35 (v' := .bool false) rfl (congrArg Value.bool (decide_eq_false (by have := hm.2.2; omega))) ?_
    refine TF_gy rfl rfl rfl rfl (Y_pick_t rfl rfl) ?_
    refine TF_y rfl rfl (Y_pick_f rfl rfl) ?_
    refine TF_nil ?_
    refine T_cond_false rfl ?_
    refine T_skip ?_
    refine thenS_normal ?_
    refine T_region_draw _ [0, 1, 3, 7, 0, 16, 0, 64, 0, 256, 0, 2047, 0, 8191] [] [(0, true), (1, true), (2, true), (3, true), (4, true), (5, true), (6, true), (7, true), (8, true), (9, true), (10, true), (11, true), (12, false), (13, false)] (by kernel_rfl) (by decide +kernel) (Gives.refl _) ?_
    refine TF_y rfl rfl (Y_move rfl) ?_
    refine TF_y rfl rfl (Y_nil_check rfl) ?_
    refine TF_y rfl rfl (Y_field_addr rfl) ?_
    refine TF_y rfl rfl (Y_load rfl rfl) ?_
    refine TF_y rfl rfl (Y_field_addr rfl) ?_
    refine TF_y rfl rfl (Y_load rfl rfl) ?_
    refine TF_y rfl rfl (Y_field_addr rfl) ?_
    refine TF_y rfl rfl (Y_load_agg rfl rfl) ?_
    refine TF_y rfl rfl (Y_field_addr rfl) ?_
    refine TF_y rfl rfl (Y_load rfl rfl) ?_
    refine TF_y rfl rfl (Y_build rfl rfl) ?_
    refine TF_y rfl rfl (Y_build rfl rfl) ?_
    refine TF_anchor rfl ?_
    refine TL_alloc rfl rfl ?_
    intro b9
    refine TF_end GivesTo.g ?_
    refine TF_anchor rfl ?_
    refine TL_store rfl rfl rfl rfl rfl rfl ?_
    refine TF_end GivesTo.g ?_
    refine TF_nil ?_
    refine T_gives (ra_close (A := A) (c := c) b s) ?_
    refine T_region ?_
    refine TL_y rfl rfl (Y_field_addr rfl) ?_
    refine TL_y rfl rfl (Y_load rfl rfl) ?_
    refine TL_y rfl rfl (Y_eq rfl rfl) ?_
    refine TL_both 15 68 (fullA s m) ?_ ?_
    · refine TL_y rfl rfl (Y_move rfl) ?_
      refine TL_splitd 54 rfl (fun h54 => ?_) (fun h54 => ?_)
      · refine TL_grun rfl rfl ?_
        refine TL_y rfl rfl (Y_move rfl) ?_
        refine TL_grun rfl rfl ?_
        refine TL_y rfl rfl (Y_field_addr rfl) ?_
        refine TL_grun rfl rfl ?_
        refine TL_y rfl rfl (Y_load rfl rfl) ?_
        refine TL_grun rfl rfl ?_
        refine TL_pullk b ?_
        refine TL_call rfl rfl (refFind16_spec m.slot) ?_
        rintro _ _ ⟨r, rfl, rfl, hr⟩
        refine TL_grun rfl rfl ?_
        refine TL_y rfl rfl (Y_lt rfl rfl) ?_
        refine TL_y rfl rfl (Y_pick_t rfl rfl) ?_
        refine TL_y rfl rfl (Y_move rfl) ?_
        refine TL_splitd 61 rfl (fun h61 => ?_) (fun h61 => ?_)
        · refine TL_grun rfl rfl ?_
          refine TL_y rfl rfl (Y_move rfl) ?_
          refine TL_grun rfl rfl ?_
          refine TL_y rfl rfl (Y_nil_check rfl) ?_
          refine TL_grun rfl rfl ?_
          refine TL_y rfl rfl (Y_field_addr rfl) ?_
          refine TL_grun rfl rfl ?_
          refine TL_pullk b ?_
          refine TL_ra fun A2 c2 hlc2 => ?_
          refine TL_y rfl rfl (Y_load rfl rfl) ?_
          refine TL_grun rfl rfl ?_
          refine TL_y rfl rfl (Y_len rfl) ?_
          refine TL_gives (ra_close (A := A2) (c := c2) b s) ?_
          refine TL_grun rfl rfl ?_
          refine TL_y rfl rfl (Y_ge rfl rfl) ?_
          refine TL_y rfl rfl (Y_pick_t rfl rfl) ?_
          refine TL_chain_end rfl ?_ (by repeat (first | exact sub_refl | refine sub_ext rfl ?_)) GivesTo.g
          exact congrArg Value.bool (decide_eq_decide.2 (⟨fun h => ⟨h54, by rcases hr with ⟨_, h2⟩ | ⟨i, u, h2, _, _⟩; exact h2; omega, by omega⟩, fun h => by have := h.2.2; omega⟩))
        · refine TL_gskip rfl rfl rfl rfl ?_
          refine TL_gskip rfl rfl rfl rfl ?_
          refine TL_gskip rfl rfl rfl rfl ?_
          refine TL_gskip rfl rfl rfl rfl ?_
          refine TL_gskip rfl rfl rfl rfl ?_
          refine TL_gskip rfl rfl rfl rfl ?_
          refine TL_y rfl rfl (Y_pick_f rfl rfl) ?_
          refine TL_chain_end rfl ?_ (by repeat (first | exact sub_refl | refine sub_ext rfl ?_)) GivesTo.g
          exact congrArg Value.bool (decide_eq_false (fun h => h61 (by rcases hr with ⟨hr, _⟩ | ⟨i, u, _, h2, h3⟩; omega; exact absurd h3 (vmap_none.1 h.2.1 u (List.mem_of_getElem? h2))))).symm
      · refine TL_gskip rfl rfl rfl rfl ?_
        refine TL_gskip rfl rfl rfl rfl ?_
        refine TL_gskip rfl rfl rfl rfl ?_
        refine TL_gskip rfl rfl rfl rfl ?_
        refine TL_gskip rfl rfl rfl rfl ?_
        refine TL_y rfl rfl (Y_pick_f rfl rfl) ?_
        refine TL_y rfl rfl (Y_move rfl) ?_
        refine TL_gskip rfl rfl rfl rfl ?_
        refine TL_gskip rfl rfl rfl rfl ?_
        refine TL_gskip rfl rfl rfl rfl ?_
        refine TL_gskip rfl rfl rfl rfl ?_
        refine TL_gskip rfl rfl rfl rfl ?_
        refine TL_gskip rfl rfl rfl rfl ?_
        refine TL_y rfl rfl (Y_pick_f rfl rfl) ?_
        refine TL_chain_end rfl ?_ (by repeat (first | exact sub_refl | refine sub_ext rfl ?_)) GivesTo.g
        exact congrArg Value.bool (decide_eq_false (fun h => h54 h.1)).symm
    refine TL_y rfl rfl (Y_assign rfl) ?_
    refine TL_nil ?_
    refine T_seq ?_
    refine T_pullk b ?_
    refine T_ra fun A c hlc => ?_
    refine T_region_draw _ [0, 1, 0, 4, 12, 28, 63, 127, 255, 511, 1023] [] [(0, true), (1, true), (2, true), (3, true), (4, true), (5, true), (6, false), (7, true), (8, true), (9, true), (10, true)] (by kernel_rfl) (by decide +kernel) (Gives.refl _) ?_
    refine TF_y rfl rfl (Y_field_addr rfl) ?_
    refine TF_y rfl rfl (Y_load_agg rfl rfl) ?_
    refine TF_y rfl rfl (Y_move rfl) ?_
    refine TF_y rfl rfl (Y_nil_check rfl) ?_
    refine TF_y rfl rfl (Y_field_addr rfl) ?_
    refine TF_y rfl rfl (Y_load_agg rfl rfl) ?_
    refine TF_anchor rfl ?_
    refine TL_call rfl rfl (refCompare_spec m.bal s.prom _) ?_
    rintro _ _ ⟨rfl, rfl⟩
    refine TF_end GivesTo.g ?_
    refine TF_y rfl rfl (Y_lt rfl rfl) ?_
    refine TF_y rfl rfl (Y_move rfl) ?_
    refine TF_splitd 77 rfl (fun h77 => ?_) (fun h77 => ?_)
    · refine TF_gskip rfl rfl rfl rfl rfl ?_
      refine TF_y rfl rfl (Y_pick_t rfl rfl) ?_
      refine TF_nil ?_
      refine T_cond_true rfl ?_
      refine T_region_draw (cells b (raC s A c) 41 :: []) [0, 1, 3, 7, 0, 16, 63, 127] [] [(0, true), (1, true), (2, true), (3, true), (4, true), (5, false), (6, true), (7, false)] (by kernel_rfl) (by decide +kernel) GivesTo.g ?_
      refine TF_y rfl rfl (Y_move rfl) ?_
      refine TF_y rfl rfl (Y_nil_check rfl) ?_
      refine TF_y rfl rfl (Y_field_addr rfl) ?_
      refine TF_y rfl rfl (Y_load_agg rfl rfl) ?_
      refine TF_y rfl rfl (Y_field_addr rfl) ?_
      refine TF_anchor rfl ?_
      refine TL_store rfl rfl rfl rfl rfl rfl ?_
      refine TF_end GivesTo.g ?_
      refine TF_y rfl rfl (Y_field_addr rfl) ?_
      refine TF_anchor rfl ?_
      refine TL_store rfl rfl rfl rfl rfl rfl ?_
      refine TF_end GivesTo.g ?_
      refine TF_nil ?_
      refine T_region ?_
      refine TL_y rfl rfl (Y_load_agg rfl rfl) ?_
      refine TL_store rfl rfl rfl rfl rfl rfl ?_
      refine TL_y rfl rfl (Y_assign rfl) ?_
      refine TL_y rfl rfl (Y_assign rfl) ?_
      refine TL_nil ?_
      refine T_ret ?_
      refine thenS_ret ?_
      refine RetQ.gives (ra_close (A := A) (c := c) b s) ?_
      refine RetQ.gives (mL_nil (m := repM s m 5 s.prom []) rfl rfl rfl rfl) ?_
      exact RetG_3 (.inl rfl) rfl (ResV.agg rfl rfl) (ResV.tmp rfl) (ResV.tmp rfl) GivesTo.g (⟨mP0, rfl, rfl⟩)
    · refine TF_gy rfl rfl rfl rfl (Y_move rfl) ?_
      refine TF_name 78 (v' := .bool true) rfl (congrArg Value.bool (decide_eq_true (by rcases hn with h | h; exact absurd h h77; exact h))) ?_
      refine TF_y rfl rfl (Y_pick_f rfl rfl) ?_
      refine TF_nil ?_
      refine T_cond_true rfl ?_
      refine T_region_draw (cells b (raC s A c) 41 :: []) [0, 1, 3, 7, 0, 16, 63, 127] [] [(0, true), (1, true), (2, true), (3, true), (4, true), (5, false), (6, true), (7, false)] (by kernel_rfl) (by decide +kernel) GivesTo.g ?_
      refine TF_y rfl rfl (Y_move rfl) ?_
      refine TF_y rfl rfl (Y_nil_check rfl) ?_
      refine TF_y rfl rfl (Y_field_addr rfl) ?_
      refine TF_y rfl rfl (Y_load_agg rfl rfl) ?_
      refine TF_y rfl rfl (Y_field_addr rfl) ?_
      refine TF_anchor rfl ?_
      refine TL_store rfl rfl rfl rfl rfl rfl ?_
      refine TF_end GivesTo.g ?_
      refine TF_y rfl rfl (Y_field_addr rfl) ?_
      refine TF_anchor rfl ?_
      refine TL_store rfl rfl rfl rfl rfl rfl ?_
      refine TF_end GivesTo.g ?_
      refine TF_nil ?_
      refine T_region ?_
      refine TL_y rfl rfl (Y_load_agg rfl rfl) ?_
      refine TL_store rfl rfl rfl rfl rfl rfl ?_
      refine TL_y rfl rfl (Y_assign rfl) ?_
      refine TL_y rfl rfl (Y_assign rfl) ?_
      refine TL_nil ?_
      refine T_ret ?_
      refine thenS_ret ?_
      refine RetQ.gives (ra_close (A := A) (c := c) b s) ?_
      refine RetQ.gives (mL_nil (m := repM s m 5 s.prom []) rfl rfl rfl rfl) ?_
      exact RetG_3 (.inl rfl) rfl (ResV.agg rfl rfl) (ResV.tmp rfl) (ResV.tmp rfl) GivesTo.g (⟨mP0, rfl, rfl⟩)
  · refine TF_gskip rfl rfl rfl rfl rfl ?_
    refine TF_gskip rfl rfl rfl rfl rfl ?_
    refine TF_gskip rfl rfl rfl rfl rfl ?_
    refine TF_gy rfl rfl rfl rfl (Y_pick_f rfl rfl) ?_
    refine TF_y rfl rfl (Y_pick_f rfl rfl) ?_
    refine TF_nil ?_
    refine T_cond_false rfl ?_
    refine T_skip ?_
    refine thenS_normal ?_
    refine T_region_draw _ [0, 1, 3, 7, 0, 16, 0, 64, 0, 256, 0, 2047, 0, 8191] [] [(0, true), (1, true), (2, true), (3, true), (4, true), (5, true), (6, true), (7, true), (8, true), (9, true), (10, true), (11, true), (12, false), (13, false)] (by kernel_rfl) (by decide +kernel) (Gives.refl _) ?_
    refine TF_y rfl rfl (Y_move rfl) ?_
    refine TF_y rfl rfl (Y_nil_check rfl) ?_
    refine TF_y rfl rfl (Y_field_addr rfl) ?_
    refine TF_y rfl rfl (Y_load rfl rfl) ?_
    refine TF_y rfl rfl (Y_field_addr rfl) ?_
    refine TF_y rfl rfl (Y_load rfl rfl) ?_
    refine TF_y rfl rfl (Y_field_addr rfl) ?_
    refine TF_y rfl rfl (Y_load_agg rfl rfl) ?_
    refine TF_y rfl rfl (Y_field_addr rfl) ?_
    refine TF_y rfl rfl (Y_load rfl rfl) ?_
    refine TF_y rfl rfl (Y_build rfl rfl) ?_
    refine TF_y rfl rfl (Y_build rfl rfl) ?_
    refine TF_anchor rfl ?_
    refine TL_alloc rfl rfl ?_
    intro b9
    refine TF_end GivesTo.g ?_
    refine TF_anchor rfl ?_
    refine TL_store rfl rfl rfl rfl rfl rfl ?_
    refine TF_end GivesTo.g ?_
    refine TF_nil ?_
    refine T_gives (ra_close (A := A) (c := c) b s) ?_
    refine T_region ?_
    refine TL_y rfl rfl (Y_field_addr rfl) ?_
    refine TL_y rfl rfl (Y_load rfl rfl) ?_
    refine TL_y rfl rfl (Y_eq rfl rfl) ?_
    refine TL_both 15 68 (fullA s m) ?_ ?_
    · refine TL_y rfl rfl (Y_move rfl) ?_
      refine TL_splitd 54 rfl (fun h54 => ?_) (fun h54 => ?_)
      · refine TL_grun rfl rfl ?_
        refine TL_y rfl rfl (Y_move rfl) ?_
        refine TL_grun rfl rfl ?_
        refine TL_y rfl rfl (Y_field_addr rfl) ?_
        refine TL_grun rfl rfl ?_
        refine TL_y rfl rfl (Y_load rfl rfl) ?_
        refine TL_grun rfl rfl ?_
        refine TL_pullk b ?_
        refine TL_call rfl rfl (refFind16_spec m.slot) ?_
        rintro _ _ ⟨r, rfl, rfl, hr⟩
        refine TL_grun rfl rfl ?_
        refine TL_y rfl rfl (Y_lt rfl rfl) ?_
        refine TL_y rfl rfl (Y_pick_t rfl rfl) ?_
        refine TL_y rfl rfl (Y_move rfl) ?_
        refine TL_splitd 61 rfl (fun h61 => ?_) (fun h61 => ?_)
        · refine TL_grun rfl rfl ?_
          refine TL_y rfl rfl (Y_move rfl) ?_
          refine TL_grun rfl rfl ?_
          refine TL_y rfl rfl (Y_nil_check rfl) ?_
          refine TL_grun rfl rfl ?_
          refine TL_y rfl rfl (Y_field_addr rfl) ?_
          refine TL_grun rfl rfl ?_
          refine TL_pullk b ?_
          refine TL_ra fun A2 c2 hlc2 => ?_
          refine TL_y rfl rfl (Y_load rfl rfl) ?_
          refine TL_grun rfl rfl ?_
          refine TL_y rfl rfl (Y_len rfl) ?_
          refine TL_gives (ra_close (A := A2) (c := c2) b s) ?_
          refine TL_grun rfl rfl ?_
          refine TL_y rfl rfl (Y_ge rfl rfl) ?_
          refine TL_y rfl rfl (Y_pick_t rfl rfl) ?_
          refine TL_chain_end rfl ?_ (by repeat (first | exact sub_refl | refine sub_ext rfl ?_)) GivesTo.g
          exact congrArg Value.bool (decide_eq_decide.2 (⟨fun h => ⟨h54, by rcases hr with ⟨_, h2⟩ | ⟨i, u, h2, _, _⟩; exact h2; omega, by omega⟩, fun h => by have := h.2.2; omega⟩))
        · refine TL_gskip rfl rfl rfl rfl ?_
          refine TL_gskip rfl rfl rfl rfl ?_
          refine TL_gskip rfl rfl rfl rfl ?_
          refine TL_gskip rfl rfl rfl rfl ?_
          refine TL_gskip rfl rfl rfl rfl ?_
          refine TL_gskip rfl rfl rfl rfl ?_
          refine TL_y rfl rfl (Y_pick_f rfl rfl) ?_
          refine TL_chain_end rfl ?_ (by repeat (first | exact sub_refl | refine sub_ext rfl ?_)) GivesTo.g
          exact congrArg Value.bool (decide_eq_false (fun h => h61 (by rcases hr with ⟨hr, _⟩ | ⟨i, u, _, h2, h3⟩; omega; exact absurd h3 (vmap_none.1 h.2.1 u (List.mem_of_getElem? h2))))).symm
      · refine TL_gskip rfl rfl rfl rfl ?_
        refine TL_gskip rfl rfl rfl rfl ?_
        refine TL_gskip rfl rfl rfl rfl ?_
        refine TL_gskip rfl rfl rfl rfl ?_
        refine TL_gskip rfl rfl rfl rfl ?_
        refine TL_y rfl rfl (Y_pick_f rfl rfl) ?_
        refine TL_y rfl rfl (Y_move rfl) ?_
        refine TL_gskip rfl rfl rfl rfl ?_
        refine TL_gskip rfl rfl rfl rfl ?_
        refine TL_gskip rfl rfl rfl rfl ?_
        refine TL_gskip rfl rfl rfl rfl ?_
        refine TL_gskip rfl rfl rfl rfl ?_
        refine TL_gskip rfl rfl rfl rfl ?_
        refine TL_y rfl rfl (Y_pick_f rfl rfl) ?_
        refine TL_chain_end rfl ?_ (by repeat (first | exact sub_refl | refine sub_ext rfl ?_)) GivesTo.g
        exact congrArg Value.bool (decide_eq_false (fun h => h54 h.1)).symm
    refine TL_y rfl rfl (Y_assign rfl) ?_
    refine TL_nil ?_
    refine T_seq ?_
    refine T_pullk b ?_
    refine T_ra fun A c hlc => ?_
    refine T_region_draw _ [0, 1, 0, 4, 12, 28, 63, 127, 255, 511, 1023] [] [(0, true), (1, true), (2, true), (3, true), (4, true), (5, true), (6, false), (7, true), (8, true), (9, true), (10, true)] (by kernel_rfl) (by decide +kernel) (Gives.refl _) ?_
    refine TF_y rfl rfl (Y_field_addr rfl) ?_
    refine TF_y rfl rfl (Y_load_agg rfl rfl) ?_
    refine TF_y rfl rfl (Y_move rfl) ?_
    refine TF_y rfl rfl (Y_nil_check rfl) ?_
    refine TF_y rfl rfl (Y_field_addr rfl) ?_
    refine TF_y rfl rfl (Y_load_agg rfl rfl) ?_
    refine TF_anchor rfl ?_
    refine TL_call rfl rfl (refCompare_spec m.bal s.prom _) ?_
    rintro _ _ ⟨rfl, rfl⟩
    refine TF_end GivesTo.g ?_
    refine TF_y rfl rfl (Y_lt rfl rfl) ?_
    refine TF_y rfl rfl (Y_move rfl) ?_
    refine TF_splitd 77 rfl (fun h77 => ?_) (fun h77 => ?_)
    · refine TF_gskip rfl rfl rfl rfl rfl ?_
      refine TF_y rfl rfl (Y_pick_t rfl rfl) ?_
      refine TF_nil ?_
      refine T_cond_true rfl ?_
      refine T_region_draw (cells b (raC s A c) 41 :: []) [0, 1, 3, 7, 0, 16, 63, 127] [] [(0, true), (1, true), (2, true), (3, true), (4, true), (5, false), (6, true), (7, false)] (by kernel_rfl) (by decide +kernel) GivesTo.g ?_
      refine TF_y rfl rfl (Y_move rfl) ?_
      refine TF_y rfl rfl (Y_nil_check rfl) ?_
      refine TF_y rfl rfl (Y_field_addr rfl) ?_
      refine TF_y rfl rfl (Y_load_agg rfl rfl) ?_
      refine TF_y rfl rfl (Y_field_addr rfl) ?_
      refine TF_anchor rfl ?_
      refine TL_store rfl rfl rfl rfl rfl rfl ?_
      refine TF_end GivesTo.g ?_
      refine TF_y rfl rfl (Y_field_addr rfl) ?_
      refine TF_anchor rfl ?_
      refine TL_store rfl rfl rfl rfl rfl rfl ?_
      refine TF_end GivesTo.g ?_
      refine TF_nil ?_
      refine T_region ?_
      refine TL_y rfl rfl (Y_load_agg rfl rfl) ?_
      refine TL_store rfl rfl rfl rfl rfl rfl ?_
      refine TL_y rfl rfl (Y_assign rfl) ?_
      refine TL_y rfl rfl (Y_assign rfl) ?_
      refine TL_nil ?_
      refine T_ret ?_
      refine thenS_ret ?_
      refine RetQ.gives (ra_close (A := A) (c := c) b s) ?_
      refine RetQ.gives (mL_nil (m := repM s m 5 s.prom []) rfl rfl rfl rfl) ?_
      exact RetG_3 (.inl rfl) rfl (ResV.agg rfl rfl) (ResV.tmp rfl) (ResV.tmp rfl) GivesTo.g (⟨mP0, rfl, rfl⟩)
    · refine TF_gy rfl rfl rfl rfl (Y_move rfl) ?_
      refine TF_name 78 (v' := .bool true) rfl (congrArg Value.bool (decide_eq_true (by rcases hn with h | h; exact absurd h h77; exact h))) ?_
      refine TF_y rfl rfl (Y_pick_f rfl rfl) ?_
      refine TF_nil ?_
      refine T_cond_true rfl ?_
      refine T_region_draw (cells b (raC s A c) 41 :: []) [0, 1, 3, 7, 0, 16, 63, 127] [] [(0, true), (1, true), (2, true), (3, true), (4, true), (5, false), (6, true), (7, false)] (by kernel_rfl) (by decide +kernel) GivesTo.g ?_
      refine TF_y rfl rfl (Y_move rfl) ?_
      refine TF_y rfl rfl (Y_nil_check rfl) ?_
      refine TF_y rfl rfl (Y_field_addr rfl) ?_
      refine TF_y rfl rfl (Y_load_agg rfl rfl) ?_
      refine TF_y rfl rfl (Y_field_addr rfl) ?_
      refine TF_anchor rfl ?_
      refine TL_store rfl rfl rfl rfl rfl rfl ?_
      refine TF_end GivesTo.g ?_
      refine TF_y rfl rfl (Y_field_addr rfl) ?_
      refine TF_anchor rfl ?_
      refine TL_store rfl rfl rfl rfl rfl rfl ?_
      refine TF_end GivesTo.g ?_
      refine TF_nil ?_
      refine T_region ?_
      refine TL_y rfl rfl (Y_load_agg rfl rfl) ?_
      refine TL_store rfl rfl rfl rfl rfl rfl ?_
      refine TL_y rfl rfl (Y_assign rfl) ?_
      refine TL_y rfl rfl (Y_assign rfl) ?_
      refine TL_nil ?_
      refine T_ret ?_
      refine thenS_ret ?_
      refine RetQ.gives (ra_close (A := A) (c := c) b s) ?_
      refine RetQ.gives (mL_nil (m := repM s m 5 s.prom []) rfl rfl rfl rfl) ?_
      exact RetG_3 (.inl rfl) rfl (ResV.agg rfl rfl) (ResV.tmp rfl) (ResV.tmp rfl) GivesTo.g (⟨mP0, rfl, rfl⟩)
set_option maxRecDepth 20000 in
theorem refOn_prep {L : List HP} {b : Nat} {s : AccD} (hi : AI s) (m : MsgD) (p : MsgP) (hx : MsgOk m) (hk : MsgK L m p) (hm : mineA s m) (hn : ¬ nackA s m) (h1 : m.kind = 1) : Fn Tryz.prog 17 #[.pointer (some ⟨b, 0, none⟩), msgV m p] (ra b s :: L) (fun v L' => ∃ q, v = .tuple #[msgV (repA s m) q, .string (recA s m), .bool (decide (mineA s m))] ∧ L' = mL (repA s m) q (ra b (stA s m) :: L)) := by
  have e1 : repA s m = repM s m 2 m.bal (aboveV s.V m.slot) := by unfold repA; rw [if_pos hm, if_neg hn, if_pos h1]
  have e3 : stA s m = ⟨s.node, m.bal, s.V⟩ := by unfold stA; rw [if_pos ⟨hm, hn⟩, if_pos h1]
  rw [e1, e3, decide_eq_true hm]
  refine Fn_enter Tryz.func17 rfl rfl rfl rfl ?_
  refine T_region ?_
  refine TL_box rfl rfl rfl ?_
  intro b3
  refine TL_alloc rfl rfl ?_
  intro b4
  refine TL_y rfl rfl (Y_assign rfl) ?_
  refine TL_y rfl rfl (Y_assign rfl) ?_
  refine TL_nil ?_
  refine T_region ?_
  refine TL_y rfl rfl (Y_load_agg rfl rfl) ?_
  refine TL_call rfl rfl (refMsg_spec m p hx hk.tail.tail.tail) ?_
  rintro _ _ ⟨A14, c14, rfl, rfl⟩
  refine TL_y rfl rfl (Y_move rfl) ?_
  refine TL_y rfl rfl (Y_extract rfl rfl) ?_
  refine TL_y rfl rfl (Y_extract rfl rfl) ?_
  refine TL_y rfl rfl (Y_assign rfl) ?_
  refine TL_y rfl rfl (Y_assign rfl) ?_
  refine TL_nil ?_
  refine T_seq ?_
  refine T_pullk b ?_
  refine T_ra fun A c hlc => ?_
  refine T_region_draw _ [0, 1, 3, 7, 15, 7, 39, 103, 231, 511, 1023, 2047, 4095, 8191, 16383, 32767, 65535, 131071, 262143, 524287, 1048575] [] [(0, true), (1, true), (2, true), (3, true), (4, true), (5, true), (6, true), (7, true), (8, true), (9, true), (10, true), (11, true), (12, true), (13, true), (14, true), (15, true), (16, true), (17, true), (18, true), (19, true), (20, true)] (by kernel_rfl) (by decide +kernel) (Gives.refl _) ?_
  refine TF_y rfl rfl (Y_move rfl) ?_
  refine TF_y rfl rfl (Y_ne rfl rfl) ?_
  refine TF_name 18 (v' := .bool false) rfl (congrArg Value.bool (decide_eq_false (by have := hm.1; omega))) ?_
  refine TF_y rfl rfl (Y_move rfl) ?_
  refine TF_gy rfl rfl rfl rfl (Y_field_addr rfl) ?_
  refine TF_gy rfl rfl rfl rfl (Y_load rfl rfl) ?_
  refine TF_gy rfl rfl rfl rfl (Y_move rfl) ?_
  refine TF_gy rfl rfl rfl rfl (Y_nil_check rfl) ?_
  refine TF_gy rfl rfl rfl rfl (Y_field_addr rfl) ?_
  refine TF_gy rfl rfl rfl rfl (Y_load rfl rfl) ?_
  refine TF_gy rfl rfl rfl rfl (Y_ne rfl rfl) ?_
  refine TF_name 26 (v' := .bool false) rfl (congrArg Value.bool (decide_eq_false (by have := hm.2.1; omega))) ?_
  refine TF_y rfl rfl (Y_pick_f rfl rfl) ?_
  refine TF_y rfl rfl (Y_move rfl) ?_
  refine TF_gy rfl rfl rfl rfl (Y_field_addr rfl) ?_
  refine TF_gy rfl rfl rfl rfl (Y_load rfl rfl) ?_
  refine TF_gy rfl rfl rfl rfl (Y_ne rfl rfl) ?_
  refine TF_name 31 (v' := .bool false) rfl (congrArg Value.bool (decide_eq_false (by omega))) ?_
  refine TF_gy rfl rfl rfl rfl (Y_move rfl) ?_
  refine TF_gskip rfl rfl rfl rfl rfl ?_
  refine TF_gskip rfl rfl rfl rfl rfl ?_
  refine TF_gskip rfl rfl rfl rfl rfl ?_
  refine TF_gy rfl rfl rfl rfl (Y_pick_f rfl rfl) ?_
  refine TF_y rfl rfl (Y_pick_f rfl rfl) ?_
  refine TF_nil ?_
  refine T_cond_false rfl ?_
  refine T_skip ?_
  refine thenS_normal ?_
  refine T_region_draw _ [0, 1, 3, 7, 0, 16, 0, 64, 0, 256, 0, 2047, 0, 8191] [] [(0, true), (1, true), (2, true), (3, true), (4, true), (5, true), (6, true), (7, true), (8, true), (9, true), (10, true), (11, true), (12, false), (13, false)] (by kernel_rfl) (by decide +kernel) (Gives.refl _) ?_
  refine TF_y rfl rfl (Y_move rfl) ?_
  refine TF_y rfl rfl (Y_nil_check rfl) ?_
  refine TF_y rfl rfl (Y_field_addr rfl) ?_
  refine TF_y rfl rfl (Y_load rfl rfl) ?_
  refine TF_y rfl rfl (Y_field_addr rfl) ?_
  refine TF_y rfl rfl (Y_load rfl rfl) ?_
  refine TF_y rfl rfl (Y_field_addr rfl) ?_
  refine TF_y rfl rfl (Y_load_agg rfl rfl) ?_
  refine TF_y rfl rfl (Y_field_addr rfl) ?_
  refine TF_y rfl rfl (Y_load rfl rfl) ?_
  refine TF_y rfl rfl (Y_build rfl rfl) ?_
  refine TF_y rfl rfl (Y_build rfl rfl) ?_
  refine TF_anchor rfl ?_
  refine TL_alloc rfl rfl ?_
  intro b9
  refine TF_end GivesTo.g ?_
  refine TF_anchor rfl ?_
  refine TL_store rfl rfl rfl rfl rfl rfl ?_
  refine TF_end GivesTo.g ?_
  refine TF_nil ?_
  refine T_region ?_
  refine TL_y rfl rfl (Y_field_addr rfl) ?_
  refine TL_y rfl rfl (Y_load rfl rfl) ?_
  refine TL_y rfl rfl (Y_eq rfl rfl) ?_
  refine TL_name 53 (v' := .bool false) rfl (congrArg Value.bool (decide_eq_false (by omega))) ?_
  refine TL_y rfl rfl (Y_move rfl) ?_
  refine TL_gskip rfl rfl rfl rfl ?_
  refine TL_gskip rfl rfl rfl rfl ?_
  refine TL_gskip rfl rfl rfl rfl ?_
  refine TL_gskip rfl rfl rfl rfl ?_
  refine TL_gskip rfl rfl rfl rfl ?_
  refine TL_y rfl rfl (Y_pick_f rfl rfl) ?_
  refine TL_y rfl rfl (Y_move rfl) ?_
  refine TL_gskip rfl rfl rfl rfl ?_
  refine TL_gskip rfl rfl rfl rfl ?_
  refine TL_gskip rfl rfl rfl rfl ?_
  refine TL_gskip rfl rfl rfl rfl ?_
  refine TL_gskip rfl rfl rfl rfl ?_
  refine TL_gskip rfl rfl rfl rfl ?_
  refine TL_y rfl rfl (Y_pick_f rfl rfl) ?_
  refine TL_y rfl rfl (Y_assign rfl) ?_
  refine TL_nil ?_
  refine T_seq ?_
  refine T_region_draw _ [0, 1, 0, 4, 12, 28, 63, 127, 255, 511, 1023] [] [(0, true), (1, true), (2, true), (3, true), (4, true), (5, true), (6, false), (7, true), (8, true), (9, true), (10, true)] (by kernel_rfl) (by decide +kernel) (Gives.refl _) ?_
  refine TF_y rfl rfl (Y_field_addr rfl) ?_
  refine TF_y rfl rfl (Y_load_agg rfl rfl) ?_
  refine TF_y rfl rfl (Y_move rfl) ?_
  refine TF_y rfl rfl (Y_nil_check rfl) ?_
  refine TF_y rfl rfl (Y_field_addr rfl) ?_
  refine TF_y rfl rfl (Y_load_agg rfl rfl) ?_
  refine TF_anchor rfl ?_
  refine TL_call rfl rfl (refCompare_spec m.bal s.prom _) ?_
  rintro _ _ ⟨rfl, rfl⟩
  refine TF_end GivesTo.g ?_
  refine TF_y rfl rfl (Y_lt rfl rfl) ?_
  refine TF_name 76 (v' := .bool false) rfl (congrArg Value.bool (decide_eq_false (fun h => hn (.inl h)))) ?_
  refine TF_y rfl rfl (Y_move rfl) ?_
  refine TF_gy rfl rfl rfl rfl (Y_move rfl) ?_
  refine TF_y rfl rfl (Y_pick_f rfl rfl) ?_
  refine TF_nil ?_
  refine T_cond_false rfl ?_
  refine T_skip ?_
  refine thenS_normal ?_
  refine T_region_draw _ [0, 1, 3, 7, 0, 16, 63, 127] [] [(0, true), (1, true), (2, true), (3, true), (4, true), (5, true), (6, true), (7, true)] (by kernel_rfl) (by decide +kernel) (Gives.refl _) ?_
  refine TF_y rfl rfl (Y_move rfl) ?_
  refine TF_y rfl rfl (Y_nil_check rfl) ?_
  refine TF_y rfl rfl (Y_field_addr rfl) ?_
  refine TF_y rfl rfl (Y_load_agg rfl rfl) ?_
  refine TF_y rfl rfl (Y_field_addr rfl) ?_
  refine TF_y rfl rfl (Y_load_agg rfl rfl) ?_
  refine TF_y rfl rfl (Y_ne_bal (a := s.prom) (b := m.bal) rfl rfl) ?_
  refine TF_name 93 (v' := .bool (decide (s.prom ≠ m.bal))) rfl (by by_cases h : s.prom = m.bal <;> simp [h]) ?_
  refine TF_y rfl rfl (Y_assign rfl) ?_
  refine TF_nil ?_
  refine T_region ?_
  refine TL_y rfl rfl (Y_move rfl) ?_
  refine TL_y rfl rfl (Y_field_addr rfl) ?_
  refine TL_y rfl rfl (Y_load_agg rfl rfl) ?_
  refine TL_y rfl rfl (Y_nil_check rfl) ?_
  refine TL_y rfl rfl (Y_field_addr rfl) ?_
  refine TL_store rfl rfl rfl rfl rfl rfl ?_
  refine TL_nil ?_
  refine T_seq ?_
  refine T_gives (ra_close (A := A) (c := c) b ⟨s.node, m.bal, s.V⟩) ?_
  refine T_region ?_
  refine TL_y rfl rfl (Y_field_addr rfl) ?_
  refine TL_y rfl rfl (Y_load rfl rfl) ?_
  refine TL_y rfl rfl (Y_eq rfl rfl) ?_
  refine TL_name 101 (v' := .bool true) rfl (congrArg Value.bool (decide_eq_true h1)) ?_
  refine TL_nil ?_
  refine T_cond_true rfl ?_
  refine T_region_last ?_
  refine TL_y rfl rfl (Y_move rfl) ?_
  refine TL_y rfl rfl (Y_field_addr rfl) ?_
  refine TL_y rfl rfl (Y_load rfl rfl) ?_
  refine TL_pullk b ?_
  refine TL_call rfl rfl (refAbove16_spec (s := ⟨s.node, m.bal, s.V⟩) hi.len m.slot) ?_
  rintro _ _ ⟨A105, c105, rfl, rfl⟩
  refine TL_freeze_osl ?_
  refine TL_y rfl rfl (Y_field_addr rfl) ?_
  refine TL_store rfl rfl rfl rfl rfl rfl ?_
  refine TL_y rfl rfl (Y_field_addr rfl) ?_
  refine TL_store rfl rfl rfl rfl rfl rfl ?_
  refine TL_nil ?_
  refine thenS_normal ?_
  refine T_seq ?_
  refine T_region ?_
  refine TL_y rfl rfl (Y_move rfl) ?_
  refine TL_y rfl rfl (Y_not_d rfl) ?_
  refine TL_nil ?_
  refine T_if rfl (fun h119 => ?_) (fun h119 => ?_)
  · refine T_region ?_
    refine TL_y rfl rfl (Y_load_agg rfl rfl) ?_
    refine TL_store rfl rfl rfl rfl rfl rfl ?_
    refine TL_y rfl rfl (Y_assign rfl) ?_
    refine TL_y rfl rfl (Y_assign rfl) ?_
    refine TL_nil ?_
    refine T_ret ?_
    refine thenS_ret ?_
    rw [show recA s m = ⟨#[]⟩ from rec_none.2 fun h => by rcases h.2.2 with h | ⟨h, _⟩; exact h119 h; omega]
    refine RetQ.gives (mL_voted (m := repM s m 2 m.bal (aboveV s.V m.slot)) rfl rfl rfl (slk (A := A105) (c := c105))) ?_
    exact RetG_3 (.inl rfl) rfl (ResV.agg rfl rfl) (ResV.tmp rfl) (ResV.tmp rfl) GivesTo.g (⟨⟨(none, 0), (A105, c105), (none, 0), (none, 0)⟩, rfl, rfl⟩)
  · refine T_skip ?_
    refine thenS_normal ?_
    refine T_region_draw (cells b9 [.int .i64 2, .int .i64 s.node, .int .i64 m.frm, .int .i64 m.bal.1, .int .i64 m.bal.2, .int .i64 m.slot, .bool true, .string ⟨#[]⟩, .string ⟨#[]⟩, .int .i64 0, .slice none 0 0, .slice A105 (aboveV s.V m.slot).length c105, .slice none 0 0, .slice none 0 0, .int .i64 0] 49 :: osl (intR .u8) 5 A14 c14 (outB (wMsg m ([], false))) :: []) [0, 0, 2, 1, 15, 31] [] [(0, true), (1, true), (2, true), (3, false), (4, true), (5, true)] (by kernel_rfl) (by decide +kernel) GivesTo.g ?_
    refine TF_y rfl rfl (Y_load_agg rfl rfl) ?_
    refine TF_y rfl rfl (Y_move rfl) ?_
    refine TF_y rfl rfl (Y_bytes_strN rfl sln) ?_
    refine TF_anchor rfl ?_
    refine TL_store rfl rfl rfl rfl rfl rfl ?_
    refine TF_end GivesTo.g ?_
    refine TF_y rfl rfl (Y_assign rfl) ?_
    refine TF_y rfl rfl (Y_assign rfl) ?_
    refine TF_nil ?_
    refine T_ret ?_
    rw [show recA s m = strOfNums (outB (wMsg m ([], false))) by unfold recA; rw [if_pos ⟨hm, hn, .inl (Classical.not_not.1 h119)⟩]]
    refine RetQ.gives (mL_voted (m := repM s m 2 m.bal (aboveV s.V m.slot)) rfl rfl rfl (slk (A := A105) (c := c105))) ?_
    exact RetG_3 (.inl rfl) rfl (ResV.agg rfl rfl) (ResV.tmp rfl) (ResV.tmp rfl) GivesTo.g (⟨⟨(none, 0), (A105, c105), (none, 0), (none, 0)⟩, rfl, rfl⟩)
set_option maxRecDepth 20000 in
theorem refOn_acc {L : List HP} {b : Nat} {s : AccD} (hi : AI s) (m : MsgD) (p : MsgP) (hx : MsgOk m) (hk : MsgK L m p) (hm : mineA s m) (hn : ¬ nackA s m) (h1 : ¬ m.kind = 1) : Fn Tryz.prog 17 #[.pointer (some ⟨b, 0, none⟩), msgV m p] (ra b s :: L) (fun v L' => ∃ q, v = .tuple #[msgV (repA s m) q, .string (recA s m), .bool (decide (mineA s m))] ∧ L' = mL (repA s m) q (ra b (stA s m) :: L)) := by
  have e1 : repA s m = repM s m 4 m.bal [] := by unfold repA; rw [if_pos hm, if_neg hn, if_neg h1]
  have e3 : stA s m = ⟨s.node, m.bal, putV s.V (newV m)⟩ := by unfold stA; rw [if_pos ⟨hm, hn⟩, if_neg h1]
  have h3 : m.kind = 3 := by rcases hm.2.2 with e | e; exact absurd e h1; exact e
  have hvo : votedOk (newV m) := ⟨hx.slot, hx.b1, hx.b2, hx.en⟩
  rw [e1, e3, decide_eq_true hm]
  refine Fn_enter Tryz.func17 rfl rfl rfl rfl ?_
  refine T_region ?_
  refine TL_box rfl rfl rfl ?_
  intro b3
  refine TL_alloc rfl rfl ?_
  intro b4
  refine TL_y rfl rfl (Y_assign rfl) ?_
  refine TL_y rfl rfl (Y_assign rfl) ?_
  refine TL_nil ?_
  refine T_region ?_
  refine TL_y rfl rfl (Y_load_agg rfl rfl) ?_
  refine TL_call rfl rfl (refMsg_spec m p hx hk.tail.tail.tail) ?_
  rintro _ _ ⟨A14, c14, rfl, rfl⟩
  refine TL_y rfl rfl (Y_move rfl) ?_
  refine TL_y rfl rfl (Y_extract rfl rfl) ?_
  refine TL_y rfl rfl (Y_extract rfl rfl) ?_
  refine TL_y rfl rfl (Y_assign rfl) ?_
  refine TL_y rfl rfl (Y_assign rfl) ?_
  refine TL_nil ?_
  refine T_seq ?_
  refine T_pullk b ?_
  refine T_ra fun A c hlc => ?_
  refine T_region_draw _ [0, 1, 3, 7, 15, 7, 39, 103, 231, 511, 1023, 2047, 4095, 8191, 16383, 32767, 65535, 131071, 262143, 524287, 1048575] [] [(0, true), (1, true), (2, true), (3, true), (4, true), (5, true), (6, true), (7, true), (8, true), (9, true), (10, true), (11, true), (12, true), (13, true), (14, true), (15, true), (16, true), (17, true), (18, true), (19, true), (20, true)] (by kernel_rfl) (by decide +kernel) (Gives.refl _) ?_
  refine TF_y rfl rfl (Y_move rfl) ?_
  refine TF_y rfl rfl (Y_ne rfl rfl) ?_
  refine TF_name 18 (v' := .bool false) rfl (congrArg Value.bool (decide_eq_false (by have := hm.1; omega))) ?_
  refine TF_y rfl rfl (Y_move rfl) ?_
  refine TF_gy rfl rfl rfl rfl (Y_field_addr rfl) ?_
  refine TF_gy rfl rfl rfl rfl (Y_load rfl rfl) ?_
  refine TF_gy rfl rfl rfl rfl (Y_move rfl) ?_
  refine TF_gy rfl rfl rfl rfl (Y_nil_check rfl) ?_
  refine TF_gy rfl rfl rfl rfl (Y_field_addr rfl) ?_
  refine TF_gy rfl rfl rfl rfl (Y_load rfl rfl) ?_
  refine TF_gy rfl rfl rfl rfl (Y_ne rfl rfl) ?_
  refine TF_name 26 (v' := .bool false) rfl (congrArg Value.bool (decide_eq_false (by have := hm.2.1; omega))) ?_
  refine TF_y rfl rfl (Y_pick_f rfl rfl) ?_
  refine TF_y rfl rfl (Y_move rfl) ?_
  refine TF_gy rfl rfl rfl rfl (Y_field_addr rfl) ?_
  refine TF_gy rfl rfl rfl rfl (Y_load rfl rfl) ?_
  refine TF_gy rfl rfl rfl rfl (Y_ne rfl rfl) ?_
  refine TF_name 31 (v' := .bool true) rfl (congrArg Value.bool (decide_eq_true (by omega))) ?_
  refine TF_gy rfl rfl rfl rfl (Y_move rfl) ?_
  refine TF_gy rfl rfl rfl rfl (Y_field_addr rfl) ?_
  refine TF_gy rfl rfl rfl rfl (Y_load rfl rfl) ?_
  refine TF_gy rfl rfl rfl rfl (Y_ne rfl rfl) ?_
  refine TF_name 35 (v' := .bool false) rfl (congrArg Value.bool (decide_eq_false (by omega))) ?_
  refine TF_gy rfl rfl rfl rfl (Y_pick_t rfl rfl) ?_
  refine TF_y rfl rfl (Y_pick_f rfl rfl) ?_
  refine TF_nil ?_
  refine T_cond_false rfl ?_
  refine T_skip ?_
  refine thenS_normal ?_
  refine T_region_draw _ [0, 1, 3, 7, 0, 16, 0, 64, 0, 256, 0, 2047, 0, 8191] [] [(0, true), (1, true), (2, true), (3, true), (4, true), (5, true), (6, true), (7, true), (8, true), (9, true), (10, true), (11, true), (12, false), (13, false)] (by kernel_rfl) (by decide +kernel) (Gives.refl _) ?_
  refine TF_y rfl rfl (Y_move rfl) ?_
  refine TF_y rfl rfl (Y_nil_check rfl) ?_
  refine TF_y rfl rfl (Y_field_addr rfl) ?_
  refine TF_y rfl rfl (Y_load rfl rfl) ?_
  refine TF_y rfl rfl (Y_field_addr rfl) ?_
  refine TF_y rfl rfl (Y_load rfl rfl) ?_
  refine TF_y rfl rfl (Y_field_addr rfl) ?_
  refine TF_y rfl rfl (Y_load_agg rfl rfl) ?_
  refine TF_y rfl rfl (Y_field_addr rfl) ?_
  refine TF_y rfl rfl (Y_load rfl rfl) ?_
  refine TF_y rfl rfl (Y_build rfl rfl) ?_
  refine TF_y rfl rfl (Y_build rfl rfl) ?_
  refine TF_anchor rfl ?_
  refine TL_alloc rfl rfl ?_
  intro b9
  refine TF_end GivesTo.g ?_
  refine TF_anchor rfl ?_
  refine TL_store rfl rfl rfl rfl rfl rfl ?_
  refine TF_end GivesTo.g ?_
  refine TF_nil ?_
  refine T_gives (ra_close (A := A) (c := c) b s) ?_
  refine T_region ?_
  refine TL_y rfl rfl (Y_field_addr rfl) ?_
  refine TL_y rfl rfl (Y_load rfl rfl) ?_
  refine TL_y rfl rfl (Y_eq rfl rfl) ?_
  refine TL_name 53 (v' := .bool true) rfl (congrArg Value.bool (decide_eq_true h3)) ?_
  refine TL_both 15 68 (False) ?_ ?_
  · refine TL_y rfl rfl (Y_move rfl) ?_
    refine TL_grun rfl rfl ?_
    refine TL_y rfl rfl (Y_move rfl) ?_
    refine TL_grun rfl rfl ?_
    refine TL_y rfl rfl (Y_field_addr rfl) ?_
    refine TL_grun rfl rfl ?_
    refine TL_y rfl rfl (Y_load rfl rfl) ?_
    refine TL_grun rfl rfl ?_
    refine TL_pullk b ?_
    refine TL_call rfl rfl (refFind16_spec m.slot) ?_
    rintro _ _ ⟨r, rfl, rfl, hr⟩
    refine TL_grun rfl rfl ?_
    refine TL_y rfl rfl (Y_lt rfl rfl) ?_
    refine TL_y rfl rfl (Y_pick_t rfl rfl) ?_
    refine TL_y rfl rfl (Y_move rfl) ?_
    refine TL_splitd 61 rfl (fun h61 => ?_) (fun h61 => ?_)
    · refine TL_grun rfl rfl ?_
      refine TL_y rfl rfl (Y_move rfl) ?_
      refine TL_grun rfl rfl ?_
      refine TL_y rfl rfl (Y_nil_check rfl) ?_
      refine TL_grun rfl rfl ?_
      refine TL_y rfl rfl (Y_field_addr rfl) ?_
      refine TL_grun rfl rfl ?_
      refine TL_pullk b ?_
      refine TL_ra fun A2 c2 hlc2 => ?_
      refine TL_y rfl rfl (Y_load rfl rfl) ?_
      refine TL_grun rfl rfl ?_
      refine TL_y rfl rfl (Y_len rfl) ?_
      refine TL_gives (ra_close (A := A2) (c := c2) b s) ?_
      refine TL_grun rfl rfl ?_
      refine TL_y rfl rfl (Y_ge rfl rfl) ?_
      refine TL_y rfl rfl (Y_pick_t rfl rfl) ?_
      refine TL_chain_end rfl ?_ (by repeat (first | exact sub_refl | refine sub_ext rfl ?_)) GivesTo.g
      exact congrArg Value.bool (decide_eq_decide.2 (iff_of_false (fun h => hn (.inr ⟨h3, by rcases hr with ⟨_, h2⟩ | ⟨i, u, h2, _, _⟩; exact h2; omega, by omega⟩)) id))
    · refine TL_gskip rfl rfl rfl rfl ?_
      refine TL_gskip rfl rfl rfl rfl ?_
      refine TL_gskip rfl rfl rfl rfl ?_
      refine TL_gskip rfl rfl rfl rfl ?_
      refine TL_gskip rfl rfl rfl rfl ?_
      refine TL_gskip rfl rfl rfl rfl ?_
      refine TL_y rfl rfl (Y_pick_f rfl rfl) ?_
      refine TL_chain_end rfl ?_ (by repeat (first | exact sub_refl | refine sub_ext rfl ?_)) GivesTo.g
      exact congrArg Value.bool (decide_eq_false (id)).symm
  refine TL_y rfl rfl (Y_assign rfl) ?_
  refine TL_nil ?_
  refine T_seq ?_
  refine T_pullk b ?_
  refine T_ra fun A c hlc => ?_
  refine T_region_draw _ [0, 1, 0, 4, 12, 28, 63, 127, 255, 511, 1023] [] [(0, true), (1, true), (2, true), (3, true), (4, true), (5, true), (6, false), (7, true), (8, true), (9, true), (10, true)] (by kernel_rfl) (by decide +kernel) (Gives.refl _) ?_
  refine TF_y rfl rfl (Y_field_addr rfl) ?_
  refine TF_y rfl rfl (Y_load_agg rfl rfl) ?_
  refine TF_y rfl rfl (Y_move rfl) ?_
  refine TF_y rfl rfl (Y_nil_check rfl) ?_
  refine TF_y rfl rfl (Y_field_addr rfl) ?_
  refine TF_y rfl rfl (Y_load_agg rfl rfl) ?_
  refine TF_anchor rfl ?_
  refine TL_call rfl rfl (refCompare_spec m.bal s.prom _) ?_
  rintro _ _ ⟨rfl, rfl⟩
  refine TF_end GivesTo.g ?_
  refine TF_y rfl rfl (Y_lt rfl rfl) ?_
  refine TF_name 76 (v' := .bool false) rfl (congrArg Value.bool (decide_eq_false (fun h => hn (.inl h)))) ?_
  refine TF_y rfl rfl (Y_move rfl) ?_
  refine TF_gy rfl rfl rfl rfl (Y_move rfl) ?_
  refine TF_name 78 (v' := .bool false) rfl (congrArg Value.bool (by simp)) ?_
  refine TF_y rfl rfl (Y_pick_f rfl rfl) ?_
  refine TF_nil ?_
  refine T_cond_false rfl ?_
  refine T_skip ?_
  refine thenS_normal ?_
  refine T_region_draw _ [0, 1, 3, 7, 0, 16, 63, 127] [] [(0, true), (1, true), (2, true), (3, true), (4, true), (5, true), (6, true), (7, true)] (by kernel_rfl) (by decide +kernel) (Gives.refl _) ?_
  refine TF_y rfl rfl (Y_move rfl) ?_
  refine TF_y rfl rfl (Y_nil_check rfl) ?_
  refine TF_y rfl rfl (Y_field_addr rfl) ?_
  refine TF_y rfl rfl (Y_load_agg rfl rfl) ?_
  refine TF_y rfl rfl (Y_field_addr rfl) ?_
  refine TF_y rfl rfl (Y_load_agg rfl rfl) ?_
  refine TF_y rfl rfl (Y_ne_bal (a := s.prom) (b := m.bal) rfl rfl) ?_
  refine TF_name 93 (v' := .bool (decide (s.prom ≠ m.bal))) rfl (by by_cases h : s.prom = m.bal <;> simp [h]) ?_
  refine TF_y rfl rfl (Y_assign rfl) ?_
  refine TF_nil ?_
  refine T_region ?_
  refine TL_y rfl rfl (Y_move rfl) ?_
  refine TL_y rfl rfl (Y_field_addr rfl) ?_
  refine TL_y rfl rfl (Y_load_agg rfl rfl) ?_
  refine TL_y rfl rfl (Y_nil_check rfl) ?_
  refine TL_y rfl rfl (Y_field_addr rfl) ?_
  refine TL_store rfl rfl rfl rfl rfl rfl ?_
  refine TL_nil ?_
  refine T_seq ?_
  refine T_gives (ra_close (A := A) (c := c) b ⟨s.node, m.bal, s.V⟩) ?_
  refine T_region ?_
  refine TL_y rfl rfl (Y_field_addr rfl) ?_
  refine TL_y rfl rfl (Y_load rfl rfl) ?_
  refine TL_y rfl rfl (Y_eq rfl rfl) ?_
  refine TL_name 101 (v' := .bool false) rfl (congrArg Value.bool (decide_eq_false h1)) ?_
  refine TL_nil ?_
  refine T_cond_false rfl ?_
  refine T_region ?_
  refine TL_y rfl rfl (Y_field_addr rfl) ?_
  refine TL_store rfl rfl rfl rfl rfl rfl ?_
  refine TL_nil ?_
  refine T_region ?_
  refine TL_y rfl rfl (Y_move rfl) ?_
  refine TL_y rfl rfl (Y_field_addr rfl) ?_
  refine TL_y rfl rfl (Y_load rfl rfl) ?_
  refine TL_y rfl rfl (Y_field_addr rfl) ?_
  refine TL_y rfl rfl (Y_load_agg rfl rfl) ?_
  refine TL_y rfl rfl (Y_field_addr rfl) ?_
  refine TL_y rfl rfl (Y_load_agg rfl rfl) ?_
  refine TL_y rfl rfl (Y_build rfl rfl) ?_
  refine TL_pullk b ?_
  refine TL_call rfl rfl (refVote_spec (s := ⟨s.node, m.bal, s.V⟩) (newV m) p.cut hi.inc hi.len hvo (SlK.of_gives GivesTo.g hk.cut)) ?_
  rintro _ _ ⟨rfl, rfl⟩
  refine TL_nil ?_
  refine T_if rfl (fun h117 => ?_) (fun h117 => ?_)
  · refine T_region_last ?_
    refine TL_y rfl rfl (Y_assign rfl) ?_
    refine TL_nil ?_
    refine thenS_normal ?_
    refine T_seq ?_
    refine T_region ?_
    refine TL_y rfl rfl (Y_move rfl) ?_
    refine TL_y rfl rfl (Y_not_t rfl) ?_
    refine TL_nil ?_
    refine T_cond_false rfl ?_
    refine T_skip ?_
    refine thenS_normal ?_
    refine T_region_draw (cells b9 [.int .i64 4, .int .i64 s.node, .int .i64 m.frm, .int .i64 m.bal.1, .int .i64 m.bal.2, .int .i64 m.slot, .bool true, .string ⟨#[]⟩, .string ⟨#[]⟩, .int .i64 0, .slice none 0 0, .slice none 0 0, .slice none 0 0, .slice none 0 0, .int .i64 0] 49 :: osl (intR .u8) 5 A14 c14 (outB (wMsg m ([], false))) :: []) [0, 0, 2, 1, 15, 31] [] [(0, true), (1, true), (2, true), (3, false), (4, true), (5, true)] (by kernel_rfl) (by decide +kernel) GivesTo.g ?_
    refine TF_y rfl rfl (Y_load_agg rfl rfl) ?_
    refine TF_y rfl rfl (Y_move rfl) ?_
    refine TF_y rfl rfl (Y_bytes_strN rfl sln) ?_
    refine TF_anchor rfl ?_
    refine TL_store rfl rfl rfl rfl rfl rfl ?_
    refine TF_end GivesTo.g ?_
    refine TF_y rfl rfl (Y_assign rfl) ?_
    refine TF_y rfl rfl (Y_assign rfl) ?_
    refine TF_nil ?_
    refine T_ret ?_
    rw [show recA s m = strOfNums (outB (wMsg m ([], false))) by unfold recA; rw [if_pos ⟨hm, hn, .inr ⟨h3, h117⟩⟩]]
    refine RetQ.gives (mL_nil (m := repM s m 4 m.bal []) rfl rfl rfl rfl) ?_
    exact RetG_3 (.inl rfl) rfl (ResV.agg rfl rfl) (ResV.tmp rfl) (ResV.tmp rfl) GivesTo.g (⟨mP0, rfl, rfl⟩)
  · refine T_skip ?_
    refine thenS_normal ?_
    refine T_seq ?_
    refine T_region ?_
    refine TL_y rfl rfl (Y_move rfl) ?_
    refine TL_y rfl rfl (Y_not_d rfl) ?_
    refine TL_nil ?_
    refine T_if rfl (fun h119 => ?_) (fun h119 => ?_)
    · refine T_region ?_
      refine TL_y rfl rfl (Y_load_agg rfl rfl) ?_
      refine TL_store rfl rfl rfl rfl rfl rfl ?_
      refine TL_y rfl rfl (Y_assign rfl) ?_
      refine TL_y rfl rfl (Y_assign rfl) ?_
      refine TL_nil ?_
      refine T_ret ?_
      refine thenS_ret ?_
      rw [show recA s m = ⟨#[]⟩ from rec_none.2 fun h => by rcases h.2.2 with h | ⟨_, h⟩; exact h119 h; exact h117 h]
      refine RetQ.gives (mL_nil (m := repM s m 4 m.bal []) rfl rfl rfl rfl) ?_
      exact RetG_3 (.inl rfl) rfl (ResV.agg rfl rfl) (ResV.tmp rfl) (ResV.tmp rfl) GivesTo.g (⟨mP0, rfl, rfl⟩)
    · refine T_skip ?_
      refine thenS_normal ?_
      refine T_region_draw (cells b9 [.int .i64 4, .int .i64 s.node, .int .i64 m.frm, .int .i64 m.bal.1, .int .i64 m.bal.2, .int .i64 m.slot, .bool true, .string ⟨#[]⟩, .string ⟨#[]⟩, .int .i64 0, .slice none 0 0, .slice none 0 0, .slice none 0 0, .slice none 0 0, .int .i64 0] 49 :: osl (intR .u8) 5 A14 c14 (outB (wMsg m ([], false))) :: []) [0, 0, 2, 1, 15, 31] [] [(0, true), (1, true), (2, true), (3, false), (4, true), (5, true)] (by kernel_rfl) (by decide +kernel) GivesTo.g ?_
      refine TF_y rfl rfl (Y_load_agg rfl rfl) ?_
      refine TF_y rfl rfl (Y_move rfl) ?_
      refine TF_y rfl rfl (Y_bytes_strN rfl sln) ?_
      refine TF_anchor rfl ?_
      refine TL_store rfl rfl rfl rfl rfl rfl ?_
      refine TF_end GivesTo.g ?_
      refine TF_y rfl rfl (Y_assign rfl) ?_
      refine TF_y rfl rfl (Y_assign rfl) ?_
      refine TF_nil ?_
      refine T_ret ?_
      rw [show recA s m = strOfNums (outB (wMsg m ([], false))) by unfold recA; rw [if_pos ⟨hm, hn, .inl (Classical.not_not.1 h119)⟩]]
      refine RetQ.gives (mL_nil (m := repM s m 4 m.bal []) rfl rfl rfl rfl) ?_
      exact RetG_3 (.inl rfl) rfl (ResV.agg rfl rfl) (ResV.tmp rfl) (ResV.tmp rfl) GivesTo.g (⟨mP0, rfl, rfl⟩)
theorem refOn16_spec {L : List HP} {b : Nat} {s : AccD} (hi : AI s) (m : MsgD) (p : MsgP) (hx : MsgOk m) (hk : MsgK L m p) : Fn Tryz.prog 17 #[.pointer (some ⟨b, 0, none⟩), msgV m p] (ra b s :: L) (fun v L' => ∃ q, v = .tuple #[msgV (repA s m) q, .string (recA s m), .bool (decide (mineA s m))] ∧ L' = mL (repA s m) q (ra b (stA s m) :: L)) := by
  by_cases hm : mineA s m
  · by_cases hn : nackA s m
    · exact refOn_nack m p hx hk hm hn
    · by_cases h1 : m.kind = 1
      · exact refOn_prep hi m p hx hk hm hn h1
      · exact refOn_acc hi m p hx hk hm hn h1
  · exact refOn_bad m p hx hk hm
end Go.SL
set_option linter.unusedVariables false
set_option linter.unusedSimpArgs false
namespace Go.SL
open Go Go.Proofs
set_option maxHeartbeats 4000000 in
theorem refReadMsg_spec {L : List HP} {A : Option Addr} {c : Nat} {bs : List Int} (x : ByteArray) (hx : strBytes x = bs) (hk : SlK L (intR .u8) A c bs) : Fn Tryz.prog 15 #[.slice A bs.length c] L (fun v L' => ∃ m p e, v = .tuple #[msgV m p, .int .i64 e] ∧ L' = mL m p L ∧ MsgOk m ∧ ((e = 0 ∧ rMsg m ∧ decM x = some m) ∨ (e = 10 ∧ decM x = none))) := by
  refine Fn_enter Tryz.func15 rfl rfl rfl rfl ?_
  refine T_gives hk.lay ?_
  refine T_region ?_
  refine TL_alloc rfl rfl ?_
  intro b2
  refine TL_y rfl rfl (Y_assign rfl) ?_
  refine TL_nil ?_
  refine T_seq ?_
  refine T_region ?_
  refine TL_y rfl rfl (Y_move rfl) ?_
  refine TL_y rfl rfl (Y_len rfl) ?_
  refine TL_y rfl rfl (Y_gt rfl rfl) ?_
  refine TL_nil ?_
  refine T_if rfl (fun h12 => ?_) (fun h12 => ?_)
  · refine T_region ?_
    refine TL_y rfl rfl (Y_build rfl rfl) ?_
    refine TL_store rfl rfl rfl rfl rfl rfl ?_
    refine TL_y rfl rfl (Y_assign rfl) ?_
    refine TL_nil ?_
    refine T_ret ?_
    refine thenS_ret ?_
    have hdn : decM x = none := decM_none (fun ⟨m, h1, h2, h3⟩ => by rw [hx] at h3; omega)
    refine RetQ.gives (slnil (A := none) (c := 0) (R := intR .i64)).lay ?_
    refine RetQ.gives (slnil (A := none) (c := 0) (R := intR .i64)).lay ?_
    refine RetQ.gives (slnil (A := none) (c := 0) (R := votedR)).lay ?_
    refine RetQ.gives (slnil (A := none) (c := 0) (R := eventR)).lay ?_
    exact RetG_2 (.inl rfl) rfl (ResV.agg rfl rfl) (ResV.tmp rfl) GivesTo.g (⟨msg0, mP0, 10, rfl, rfl, msg0_ok, .inr ⟨rfl, hdn⟩⟩)
  · refine T_skip ?_
    refine thenS_normal ?_
    refine T_region ?_
    refine TL_y rfl rfl (Y_move rfl) ?_
    refine TL_y rfl rfl (Y_build rfl rfl) ?_
    refine TL_box rfl rfl rfl ?_
    intro b16
    refine TL_gives (rrd_close b16 ⟨bs, 0, false⟩ rfl (SlK.tail slk)) ?_
    refine TL_y rfl rfl (Y_assign rfl) ?_
    refine TL_nil ?_
    refine T_region ?_
    refine TL_y rfl rfl (Y_build rfl rfl) ?_
    refine TL_alloc rfl rfl ?_
    intro b5
    refine TL_store rfl rfl rfl rfl rfl rfl ?_
    refine TL_nil ?_
    refine T_region ?_
    refine TL_y rfl rfl (Y_move rfl) ?_
    refine TL_pullk b16 ?_
    refine TL_call rfl rfl (rnumber_spec 255 (by decide) (by show 0 + bs.length ≤ _; omega)) ?_
    rintro _ _ ⟨x0, s0, rfl, rfl, h0⟩
    have ht0 : s0.n + s0.b.length = 0 + bs.length := h0.tot
    refine TL_y rfl rfl (Y_field_addr rfl) ?_
    refine TL_store rfl rfl rfl rfl rfl rfl ?_
    refine TL_nil ?_
    refine T_region ?_
    refine TL_y rfl rfl (Y_move rfl) ?_
    refine TL_pullk b16 ?_
    refine TL_call rfl rfl (rnumber_spec 6 (by decide) (by omega)) ?_
    rintro _ _ ⟨x1, s1, rfl, rfl, h1⟩
    have ht1 := h1.tot
    refine TL_y rfl rfl (Y_field_addr rfl) ?_
    refine TL_store rfl rfl rfl rfl rfl rfl ?_
    refine TL_nil ?_
    refine T_region ?_
    refine TL_y rfl rfl (Y_move rfl) ?_
    refine TL_pullk b16 ?_
    refine TL_call rfl rfl (rnumber_spec 6 (by decide) (by omega)) ?_
    rintro _ _ ⟨x2, s2, rfl, rfl, h2⟩
    have ht2 := h2.tot
    refine TL_y rfl rfl (Y_field_addr rfl) ?_
    refine TL_store rfl rfl rfl rfl rfl rfl ?_
    refine TL_nil ?_
    refine T_region ?_
    refine TL_y rfl rfl (Y_move rfl) ?_
    refine TL_pullk b16 ?_
    refine TL_call rfl rfl (rrballot_spec (by omega)) ?_
    rintro _ _ ⟨x3, s3, rfl, rfl, h3⟩
    have ht3 := h3.tot
    refine TL_y rfl rfl (Y_field_addr rfl) ?_
    refine TL_store rfl rfl rfl rfl rfl rfl ?_
    refine TL_nil ?_
    refine T_region ?_
    refine TL_y rfl rfl (Y_move rfl) ?_
    refine TL_pullk b16 ?_
    refine TL_call rfl rfl (rnumber_spec 2147483647 (by decide) (by omega)) ?_
    rintro _ _ ⟨x4, s4, rfl, rfl, h4⟩
    have ht4 := h4.tot
    refine TL_y rfl rfl (Y_field_addr rfl) ?_
    refine TL_store rfl rfl rfl rfl rfl rfl ?_
    refine TL_nil ?_
    refine T_region ?_
    refine TL_y rfl rfl (Y_move rfl) ?_
    refine TL_pullk b16 ?_
    refine TL_call rfl rfl (rrentry_spec (by omega)) ?_
    rintro _ _ ⟨x5, A5, c5, s5, rfl, rfl, h5⟩
    have ht5 := h5.tot
    refine TL_y rfl rfl (Y_field_addr rfl) ?_
    refine TL_store rfl rfl rfl rfl rfl rfl ?_
    refine TL_nil ?_
    refine T_region ?_
    refine TL_y rfl rfl (Y_move rfl) ?_
    refine TL_pullk b16 ?_
    refine TL_call rfl rfl (rnumber_spec 4096 (by decide) (by omega)) ?_
    rintro _ _ ⟨y6, s6, rfl, rfl, h6⟩
    obtain ⟨m6, rfl⟩ : ∃ m : Nat, y6 = (m : Int) := ⟨y6.toNat, by have := h6.iv; unfold rNum at this; omega⟩
    have hm6 := h6.iv
    unfold rNum at hm6
    have ht6 := h6.tot
    refine TL_y rfl rfl (Y_assign rfl) ?_
    refine TL_nil ?_
    refine T_seq ?_
    refine T_region ?_
    refine TL_y rfl rfl (Y_assign rfl) ?_
    refine TL_nil ?_
    refine T_block ?_
    refine T_loopK (σ := LsS VotedD) [2, 4, 5, 6] (fun g => g.xs.length ≤ m6 ∧ LI rVoted votedOk bVoted m6 s6 g.xs g.s) (fun g kv => (7, .int .i64 (g.xs.length : Int)) :: kv) (fun g => osl votedR 64 g.A g.c g.xs :: cells b5 (msgC ⟨x0, x1, x2, x3, x4, x5, g.xs, [], [], 0⟩ ⟨(A5, c5), (g.A, g.c), (none, 0), (none, 0)⟩) 49 :: rrd b16 g.s :: sl (intR .i64) A5 c5 x5.order.cut :: cells b2 (msgC msg0 mP0) 49 :: L) (fun g => m6 - g.xs.length) (⟨[], s6, none, 0⟩) rfl (⟨Nat.zero_le _, LI.zero⟩) ((osl_nil votedR 64 none _).trans (show Gives _ (osl votedR 64 none 0 [] :: cells b5 (msgC ⟨x0, x1, x2, x3, x4, x5, [], [], [], 0⟩ ⟨(A5, c5), (none, 0), (none, 0), (none, 0)⟩) 49 :: rrd b16 s6 :: sl (intR .i64) A5 c5 x5.order.cut :: cells b2 (msgC msg0 mP0) 49 :: L) from GivesTo.g)) (sub_cons rfl (sub_cons rfl (sub_cons rfl (sub_cons rfl (sub_cons rfl (sub_nil)))))) ?_
    rintro ⟨xs, st, A6, c6⟩ ⟨hl, hli⟩
    dsimp only at hl hli ⊢
    have htot2 := hli.tot
    refine T_seq ?_
    refine T_region ?_
    refine TL_y rfl rfl (Y_move rfl) ?_
    refine TL_y rfl rfl (Y_move rfl) ?_
    refine TL_y rfl rfl (Y_lt rfl rfl) ?_
    refine TL_y rfl rfl (Y_move rfl) ?_
    refine TL_splitd 41 rfl (fun h41 => ?_) (fun h41 => ?_)
    · refine TL_grun rfl rfl ?_
      refine TL_y rfl rfl (Y_move rfl) ?_
      refine TL_grun rfl rfl ?_
      refine TL_y rfl rfl (Y_nil_check rfl) ?_
      refine TL_grun rfl rfl ?_
      refine TL_y rfl rfl (Y_field_addr rfl) ?_
      refine TL_grun rfl rfl ?_
      refine TL_y rfl rfl (Y_load_rrd rfl) ?_
      refine TL_y rfl rfl (Y_pick_t rfl rfl) ?_
      refine TL_nil ?_
      refine T_cond rfl (fun h46 => ?_) (fun h46 => ?_)
      · refine T_skip ?_
        refine thenS_normal ?_
        refine T_seq ?_
        refine T_block ?_
        refine T_region ?_
        refine TL_y rfl rfl (Y_build rfl rfl) ?_
        refine TL_alloc rfl rfl ?_
        intro b8
        refine TL_store rfl rfl rfl rfl rfl rfl ?_
        refine TL_nil ?_
        refine T_region ?_
        refine TL_y rfl rfl (Y_move rfl) ?_
        refine TL_pullk b16 ?_
        refine TL_call rfl rfl (rnumber_spec 2147483647 (by decide) (by omega)) ?_
        rintro _ _ ⟨z0, q0, rfl, rfl, g0⟩
        have gt0 := g0.tot
        refine TL_y rfl rfl (Y_field_addr rfl) ?_
        refine TL_store rfl rfl rfl rfl rfl rfl ?_
        refine TL_nil ?_
        refine T_region ?_
        refine TL_y rfl rfl (Y_move rfl) ?_
        refine TL_pullk b16 ?_
        refine TL_call rfl rfl (rrballot_spec (by omega)) ?_
        rintro _ _ ⟨z1, q1, rfl, rfl, g1⟩
        have gt1 := g1.tot
        refine TL_y rfl rfl (Y_field_addr rfl) ?_
        refine TL_store rfl rfl rfl rfl rfl rfl ?_
        refine TL_nil ?_
        refine T_region ?_
        refine TL_y rfl rfl (Y_move rfl) ?_
        refine TL_pullk b16 ?_
        refine TL_call rfl rfl (rrentry_spec (by omega)) ?_
        rintro _ _ ⟨z2, A57, c57, q2, rfl, rfl, g2⟩
        have hvr := votedRd g0 g1 g2
        refine TL_y rfl rfl (Y_field_addr rfl) ?_
        refine TL_store rfl rfl rfl rfl rfl rfl ?_
        refine TL_nil ?_
        refine T_region_last ?_
        refine TL_y rfl rfl (Y_field_addr rfl) ?_
        refine TL_y rfl rfl (Y_load rfl rfl) ?_
        refine TL_y rfl rfl (Y_load_agg rfl rfl) ?_
        refine TL_build_slice rfl rfl rfl rfl rfl rfl ?_
        intro b62
        refine TL_osl (k := 1) votedR [⟨z0, z1, z2⟩] (one_cell (ex_rep (u := (⟨z0, z1, z2⟩ : VotedD)) (A57, c57) (sep_sl slk) hvr.iv)) rfl (by decide) ?_
        refine TL_freeze_osl ?_
        refine TL_name 62 (v' := .slice (some ⟨b62, 0, none⟩) [(⟨z0, z1, z2⟩ : VotedD)].length 1) rfl rfl ?_
        refine TL_append rfl rfl rfl rfl rfl slk (by simp only [List.length_cons, List.length_nil]; omega) ?_
        intro A63 c63
        refine TL_y rfl rfl (Y_field_addr rfl) ?_
        refine TL_store rfl rfl rfl rfl rfl rfl ?_
        refine TL_nil ?_
        refine inB_normal ?_
        refine thenS_normal ?_
        refine T_region_last ?_
        refine TL_y rfl rfl (Y_move rfl) ?_
        refine TL_y rfl rfl (Y_add rfl rfl (by omega)) ?_
        refine TL_name 48 (v' := .int .i64 ((xs ++ [(⟨z0, z1, z2⟩ : VotedD)]).length : Int)) rfl (by congr 1; simp) ?_
        refine TL_y rfl rfl (Y_assign rfl) ?_
        refine TL_nil ?_
        refine thenS_normal ?_
        exact ⟨⟨xs ++ [⟨z0, z1, z2⟩], q2, A63, c63⟩, ⟨by simp only [List.length_append, List.length_cons, List.length_nil]; omega, hli.next pf_voted (by omega) hvr⟩, by simp only [List.length_append, List.length_cons, List.length_nil]; omega, holds_to (sub_cons rfl (sub_cons rfl (sub_cons rfl (sub_cons rfl (sub_cons rfl (sub_nil)))))) GivesTo.g⟩
      · refine T_exit ?_
        refine thenS_exit ?_
        refine thenS_exit ?_
        refine inB_hit ?_
        refine thenS_normal ?_
        have hd6 : xs.length = m6 ∨ st.bad = true := .inr (by simpa using h46)
        have h7' := hli.done (most := 4096) (by decide) h6 hl hd6
        refine T_freeze_osl ?_
        refine T_region ?_
        refine TL_y rfl rfl (Y_move rfl) ?_
        refine TL_pullk b16 ?_
        refine TL_call rfl rfl (rrvector_spec (by omega)) ?_
        rintro _ _ ⟨x7, A7, c7, s7, rfl, rfl, h7⟩
        have ht7 := h7.tot
        refine TL_y rfl rfl (Y_field_addr rfl) ?_
        refine TL_store rfl rfl rfl rfl rfl rfl ?_
        refine TL_nil ?_
        refine T_region ?_
        refine TL_y rfl rfl (Y_move rfl) ?_
        refine TL_pullk b16 ?_
        refine TL_call rfl rfl (rnumber_spec 4096 (by decide) (by omega)) ?_
        rintro _ _ ⟨y8, s8, rfl, rfl, h8⟩
        obtain ⟨m8, rfl⟩ : ∃ m : Nat, y8 = (m : Int) := ⟨y8.toNat, by have := h8.iv; unfold rNum at this; omega⟩
        have hm8 := h8.iv
        unfold rNum at hm8
        have ht8 := h8.tot
        refine TL_y rfl rfl (Y_assign rfl) ?_
        refine TL_nil ?_
        refine T_seq ?_
        refine T_region ?_
        refine TL_y rfl rfl (Y_assign rfl) ?_
        refine TL_nil ?_
        refine T_block ?_
        refine T_loopK (σ := LsS EventD) [2, 4, 5, 6] (fun g => g.xs.length ≤ m8 ∧ LI rEvent eventOk bEvent m8 s8 g.xs g.s) (fun g kv => (9, .int .i64 (g.xs.length : Int)) :: kv) (fun g => osl eventR 85 g.A g.c g.xs :: cells b5 (msgC ⟨x0, x1, x2, x3, x4, x5, xs, x7, g.xs, 0⟩ ⟨(A5, c5), (A6, c6), (A7, c7), (g.A, g.c)⟩) 49 :: rrd b16 g.s :: sl (intR .i64) A7 c7 x7 :: sl votedR A6 c6 xs :: sl (intR .i64) A5 c5 x5.order.cut :: cells b2 (msgC msg0 mP0) 49 :: L) (fun g => m8 - g.xs.length) (⟨[], s8, none, 0⟩) rfl (⟨Nat.zero_le _, LI.zero⟩) ((osl_nil eventR 85 none _).trans (show Gives _ (osl eventR 85 none 0 [] :: cells b5 (msgC ⟨x0, x1, x2, x3, x4, x5, xs, x7, [], 0⟩ ⟨(A5, c5), (A6, c6), (A7, c7), (none, 0)⟩) 49 :: rrd b16 s8 :: sl (intR .i64) A7 c7 x7 :: sl votedR A6 c6 xs :: sl (intR .i64) A5 c5 x5.order.cut :: cells b2 (msgC msg0 mP0) 49 :: L) from GivesTo.g)) (sub_cons rfl (sub_cons rfl (sub_cons rfl (sub_cons rfl (sub_cons rfl (sub_nil)))))) ?_
        rintro ⟨es, st2, A8, c8⟩ ⟨hl2, hli2⟩
        dsimp only at hl2 hli2 ⊢
        have htot3 := hli2.tot
        refine T_seq ?_
        refine T_region ?_
        refine TL_y rfl rfl (Y_move rfl) ?_
        refine TL_y rfl rfl (Y_move rfl) ?_
        refine TL_y rfl rfl (Y_lt rfl rfl) ?_
        refine TL_y rfl rfl (Y_move rfl) ?_
        refine TL_splitd 73 rfl (fun h73 => ?_) (fun h73 => ?_)
        · refine TL_grun rfl rfl ?_
          refine TL_y rfl rfl (Y_move rfl) ?_
          refine TL_grun rfl rfl ?_
          refine TL_y rfl rfl (Y_nil_check rfl) ?_
          refine TL_grun rfl rfl ?_
          refine TL_y rfl rfl (Y_field_addr rfl) ?_
          refine TL_grun rfl rfl ?_
          refine TL_y rfl rfl (Y_load_rrd rfl) ?_
          refine TL_y rfl rfl (Y_pick_t rfl rfl) ?_
          refine TL_nil ?_
          refine T_cond rfl (fun h78 => ?_) (fun h78 => ?_)
          · refine T_skip ?_
            refine thenS_normal ?_
            refine T_seq ?_
            refine T_block ?_
            refine T_region_draw_last (cells b5 (msgC ⟨x0, x1, x2, x3, x4, x5, xs, x7, es, 0⟩ ⟨(A5, c5), (A6, c6), (A7, c7), (A8, c8)⟩) 49 :: []) [0, 1, 0, 4, 12, 31, 63, 127] [7] [(0, true), (1, true), (2, true), (3, false), (4, false), (5, false), (6, true), (7, false)] (by kernel_rfl) (by decide +kernel) GivesTo.g ?_
            refine TF_y rfl rfl (Y_field_addr rfl) ?_
            refine TF_y rfl rfl (Y_load rfl rfl) ?_
            refine TF_y rfl rfl (Y_move rfl) ?_
            refine TF_anchor rfl ?_
            refine TL_pullk b16 ?_
            refine TL_call rfl rfl (rrevent_spec (by omega)) ?_
            rintro _ _ ⟨ev, A84, c84, q3, rfl, rfl, g3⟩
            refine TF_end GivesTo.g ?_
            refine TF_anchor rfl ?_
            refine TL_build_slice rfl rfl rfl rfl rfl rfl ?_
            intro b85
            refine TL_osl (k := 1) eventR [ev] (one_cell (ex_rep (A84, c84) (sep_sl slk) g3.iv)) rfl (by decide) ?_
            refine TL_freeze_osl ?_
            refine TL_name 85 (v' := .slice (some ⟨b85, 0, none⟩) [ev].length 1) rfl rfl ?_
            refine TF_end GivesTo.g ?_
            refine TF_anchor rfl ?_
            refine TL_append rfl rfl rfl rfl rfl slk (by simp only [List.length_cons, List.length_nil]; omega) ?_
            intro A86 c86
            refine TF_end GivesTo.g ?_
            refine TF_y rfl rfl (Y_field_addr rfl) ?_
            refine TF_anchor rfl ?_
            refine TL_store rfl rfl rfl rfl rfl rfl ?_
            refine TF_end_tail rfl ?_
            refine TF_nil ?_
            refine inB_normal ?_
            refine thenS_normal ?_
            refine T_region_last ?_
            refine TL_y rfl rfl (Y_move rfl) ?_
            refine TL_y rfl rfl (Y_add rfl rfl (by omega)) ?_
            refine TL_name 80 (v' := .int .i64 ((es ++ [ev]).length : Int)) rfl (by congr 1; simp) ?_
            refine TL_y rfl rfl (Y_assign rfl) ?_
            refine TL_nil ?_
            refine thenS_normal ?_
            exact ⟨⟨es ++ [ev], q3, A86, c86⟩, ⟨by simp only [List.length_append, List.length_cons, List.length_nil]; omega, hli2.next pf_event (by omega) g3⟩, by simp only [List.length_append, List.length_cons, List.length_nil]; omega, holds_to (sub_cons rfl (sub_cons rfl (sub_cons rfl (sub_cons rfl (sub_cons rfl (sub_nil)))))) GivesTo.g⟩
          · refine T_exit ?_
            refine thenS_exit ?_
            refine thenS_exit ?_
            refine inB_hit ?_
            refine thenS_normal ?_
            have hd8 : es.length = m8 ∨ st2.bad = true := .inr (by simpa using h78)
            have h9' := hli2.done (most := 4096) (by decide) h8 hl2 hd8
            refine T_freeze_osl ?_
            refine T_region ?_
            refine TL_y rfl rfl (Y_move rfl) ?_
            refine TL_pullk b16 ?_
            refine TL_call rfl rfl (rnumber_spec 4611686018427387904 (by decide) (by omega)) ?_
            rintro _ _ ⟨x9, s9, rfl, rfl, h9⟩
            refine TL_y rfl rfl (Y_field_addr rfl) ?_
            refine TL_store rfl rfl rfl rfl rfl rfl ?_
            refine TL_nil ?_
            refine T_seq ?_
            have hmr := msgRd h0 h1 h2 h3 h4 h5 h7' h7 h9' h9
            refine T_pullk b16 ?_
            refine T_rrd fun Ar cr => ?_
            refine T_region ?_
            refine TL_y rfl rfl (Y_move rfl) ?_
            refine TL_y rfl rfl (Y_nil_check rfl) ?_
            refine TL_y rfl rfl (Y_field_addr rfl) ?_
            refine TL_y rfl rfl (Y_load rfl rfl) ?_
            refine TL_y rfl rfl (Y_not rfl) ?_
            refine TL_y rfl rfl (Y_move rfl) ?_
            refine TL_split 96 rfl (fun h96 => ?_) (fun h96 => ?_)
            · refine TL_gskip rfl rfl rfl rfl ?_
              refine TL_gskip rfl rfl rfl rfl ?_
              refine TL_gskip rfl rfl rfl rfl ?_
              refine TL_gskip rfl rfl rfl rfl ?_
              refine TL_gskip rfl rfl rfl rfl ?_
              refine TL_gskip rfl rfl rfl rfl ?_
              refine TL_y rfl rfl (Y_pick_t rfl rfl) ?_
              refine TL_nil ?_
              refine T_cond_true rfl ?_
              refine T_region ?_
              refine TL_y rfl rfl (Y_build rfl rfl) ?_
              refine TL_store rfl rfl rfl rfl rfl rfl ?_
              refine TL_y rfl rfl (Y_assign rfl) ?_
              refine TL_nil ?_
              refine T_ret ?_
              refine thenS_ret ?_
              have hres : MsgRes (strBytes x) msg0 10 := (by rw [hx]; exact ⟨_, s9, hmr, .inr ⟨rfl, .inl (by simpa using h96)⟩⟩)
              have hdn : decM x = none := (dec_res (x := x) (m := msg0) (e := 10) hres (fun _ => rfl)).elim (fun h => absurd h.1 (by decide)) (fun h => h.2.2)
              refine RetQ.gives (slnil (A := none) (c := 0) (R := intR .i64)).lay ?_
              refine RetQ.gives (slnil (A := none) (c := 0) (R := intR .i64)).lay ?_
              refine RetQ.gives (slnil (A := none) (c := 0) (R := votedR)).lay ?_
              refine RetQ.gives (slnil (A := none) (c := 0) (R := eventR)).lay ?_
              exact RetG_2 (.inl rfl) rfl (ResV.agg rfl rfl) (ResV.tmp rfl) GivesTo.g (⟨msg0, mP0, 10, rfl, rfl, msg0_ok, .inr ⟨rfl, hdn⟩⟩)
            · refine TL_grun rfl rfl ?_
              refine TL_y rfl rfl (Y_move rfl) ?_
              refine TL_grun rfl rfl ?_
              refine TL_y rfl rfl (Y_nil_check rfl) ?_
              refine TL_grun rfl rfl ?_
              refine TL_y rfl rfl (Y_field_addr rfl) ?_
              refine TL_grun rfl rfl ?_
              refine TL_y rfl rfl (Y_load rfl rfl) ?_
              refine TL_grun rfl rfl ?_
              refine TL_y rfl rfl (Y_len rfl) ?_
              refine TL_grun rfl rfl ?_
              refine TL_y rfl rfl (Y_gt rfl rfl) ?_
              refine TL_y rfl rfl (Y_pick_f rfl rfl) ?_
              refine TL_nil ?_
              refine T_if rfl (fun h103 => ?_) (fun h103 => ?_)
              · refine T_region ?_
                refine TL_y rfl rfl (Y_build rfl rfl) ?_
                refine TL_store rfl rfl rfl rfl rfl rfl ?_
                refine TL_y rfl rfl (Y_assign rfl) ?_
                refine TL_nil ?_
                refine T_ret ?_
                refine thenS_ret ?_
                have hres : MsgRes (strBytes x) msg0 10 := (by rw [hx]; exact ⟨_, s9, hmr, .inr ⟨rfl, .inr (.inl (fun e => by rw [e] at h103; simp at h103))⟩⟩)
                have hdn : decM x = none := (dec_res (x := x) (m := msg0) (e := 10) hres (fun _ => rfl)).elim (fun h => absurd h.1 (by decide)) (fun h => h.2.2)
                refine RetQ.gives (slnil (A := none) (c := 0) (R := intR .i64)).lay ?_
                refine RetQ.gives (slnil (A := none) (c := 0) (R := intR .i64)).lay ?_
                refine RetQ.gives (slnil (A := none) (c := 0) (R := votedR)).lay ?_
                refine RetQ.gives (slnil (A := none) (c := 0) (R := eventR)).lay ?_
                exact RetG_2 (.inl rfl) rfl (ResV.agg rfl rfl) (ResV.tmp rfl) GivesTo.g (⟨msg0, mP0, 10, rfl, rfl, msg0_ok, .inr ⟨rfl, hdn⟩⟩)
              · refine T_skip ?_
                refine thenS_normal ?_
                refine T_region ?_
                refine TL_y rfl rfl (Y_load_agg rfl rfl) ?_
                refine TL_store rfl rfl rfl rfl rfl rfl ?_
                refine TL_y rfl rfl (Y_assign rfl) ?_
                refine TL_nil ?_
                refine T_ret ?_
                have hres : MsgRes (strBytes x) ⟨x0, x1, x2, x3, x4, x5, xs, x7, es, x9⟩ 0 := (by rw [hx]; exact ⟨_, s9, hmr, .inl ⟨rfl, rfl, by simpa using h96, List.eq_nil_of_length_eq_zero (by omega), by omega⟩⟩)
                have hd := (dec_res (x := x) hres (fun h => absurd h (by decide))).elim (fun h => h) (fun h => absurd h.1 (by decide))
                exact RetG_2 (.inl rfl) rfl (ResV.agg rfl rfl) (ResV.tmp rfl) GivesTo.g (⟨⟨x0, x1, x2, x3, x4, x5, xs, x7, es, x9⟩, ⟨(A5, c5), (A6, c6), (A7, c7), (A8, c8)⟩, 0, rfl, rfl, hmr.iv, .inl ⟨rfl, hd.2.1, hd.2.2.1⟩⟩)
        · refine TL_gskip rfl rfl rfl rfl ?_
          refine TL_gskip rfl rfl rfl rfl ?_
          refine TL_gskip rfl rfl rfl rfl ?_
          refine TL_gskip rfl rfl rfl rfl ?_
          refine TL_y rfl rfl (Y_pick_f rfl rfl) ?_
          refine TL_nil ?_
          refine T_cond_false rfl ?_
          refine T_exit ?_
          refine thenS_exit ?_
          refine thenS_exit ?_
          refine inB_hit ?_
          refine thenS_normal ?_
          have hd8 : es.length = m8 ∨ st2.bad = true := .inl (by omega)
          have h9' := hli2.done (most := 4096) (by decide) h8 hl2 hd8
          refine T_freeze_osl ?_
          refine T_region ?_
          refine TL_y rfl rfl (Y_move rfl) ?_
          refine TL_pullk b16 ?_
          refine TL_call rfl rfl (rnumber_spec 4611686018427387904 (by decide) (by omega)) ?_
          rintro _ _ ⟨x9, s9, rfl, rfl, h9⟩
          refine TL_y rfl rfl (Y_field_addr rfl) ?_
          refine TL_store rfl rfl rfl rfl rfl rfl ?_
          refine TL_nil ?_
          refine T_seq ?_
          have hmr := msgRd h0 h1 h2 h3 h4 h5 h7' h7 h9' h9
          refine T_pullk b16 ?_
          refine T_rrd fun Ar cr => ?_
          refine T_region ?_
          refine TL_y rfl rfl (Y_move rfl) ?_
          refine TL_y rfl rfl (Y_nil_check rfl) ?_
          refine TL_y rfl rfl (Y_field_addr rfl) ?_
          refine TL_y rfl rfl (Y_load rfl rfl) ?_
          refine TL_y rfl rfl (Y_not rfl) ?_
          refine TL_y rfl rfl (Y_move rfl) ?_
          refine TL_split 96 rfl (fun h96 => ?_) (fun h96 => ?_)
          · refine TL_gskip rfl rfl rfl rfl ?_
            refine TL_gskip rfl rfl rfl rfl ?_
            refine TL_gskip rfl rfl rfl rfl ?_
            refine TL_gskip rfl rfl rfl rfl ?_
            refine TL_gskip rfl rfl rfl rfl ?_
            refine TL_gskip rfl rfl rfl rfl ?_
            refine TL_y rfl rfl (Y_pick_t rfl rfl) ?_
            refine TL_nil ?_
            refine T_cond_true rfl ?_
            refine T_region ?_
            refine TL_y rfl rfl (Y_build rfl rfl) ?_
            refine TL_store rfl rfl rfl rfl rfl rfl ?_
            refine TL_y rfl rfl (Y_assign rfl) ?_
            refine TL_nil ?_
            refine T_ret ?_
            refine thenS_ret ?_
            have hres : MsgRes (strBytes x) msg0 10 := (by rw [hx]; exact ⟨_, s9, hmr, .inr ⟨rfl, .inl (by simpa using h96)⟩⟩)
            have hdn : decM x = none := (dec_res (x := x) (m := msg0) (e := 10) hres (fun _ => rfl)).elim (fun h => absurd h.1 (by decide)) (fun h => h.2.2)
            refine RetQ.gives (slnil (A := none) (c := 0) (R := intR .i64)).lay ?_
            refine RetQ.gives (slnil (A := none) (c := 0) (R := intR .i64)).lay ?_
            refine RetQ.gives (slnil (A := none) (c := 0) (R := votedR)).lay ?_
            refine RetQ.gives (slnil (A := none) (c := 0) (R := eventR)).lay ?_
            exact RetG_2 (.inl rfl) rfl (ResV.agg rfl rfl) (ResV.tmp rfl) GivesTo.g (⟨msg0, mP0, 10, rfl, rfl, msg0_ok, .inr ⟨rfl, hdn⟩⟩)
          · refine TL_grun rfl rfl ?_
            refine TL_y rfl rfl (Y_move rfl) ?_
            refine TL_grun rfl rfl ?_
            refine TL_y rfl rfl (Y_nil_check rfl) ?_
            refine TL_grun rfl rfl ?_
            refine TL_y rfl rfl (Y_field_addr rfl) ?_
            refine TL_grun rfl rfl ?_
            refine TL_y rfl rfl (Y_load rfl rfl) ?_
            refine TL_grun rfl rfl ?_
            refine TL_y rfl rfl (Y_len rfl) ?_
            refine TL_grun rfl rfl ?_
            refine TL_y rfl rfl (Y_gt rfl rfl) ?_
            refine TL_y rfl rfl (Y_pick_f rfl rfl) ?_
            refine TL_nil ?_
            refine T_if rfl (fun h103 => ?_) (fun h103 => ?_)
            · refine T_region ?_
              refine TL_y rfl rfl (Y_build rfl rfl) ?_
              refine TL_store rfl rfl rfl rfl rfl rfl ?_
              refine TL_y rfl rfl (Y_assign rfl) ?_
              refine TL_nil ?_
              refine T_ret ?_
              refine thenS_ret ?_
              have hres : MsgRes (strBytes x) msg0 10 := (by rw [hx]; exact ⟨_, s9, hmr, .inr ⟨rfl, .inr (.inl (fun e => by rw [e] at h103; simp at h103))⟩⟩)
              have hdn : decM x = none := (dec_res (x := x) (m := msg0) (e := 10) hres (fun _ => rfl)).elim (fun h => absurd h.1 (by decide)) (fun h => h.2.2)
              refine RetQ.gives (slnil (A := none) (c := 0) (R := intR .i64)).lay ?_
              refine RetQ.gives (slnil (A := none) (c := 0) (R := intR .i64)).lay ?_
              refine RetQ.gives (slnil (A := none) (c := 0) (R := votedR)).lay ?_
              refine RetQ.gives (slnil (A := none) (c := 0) (R := eventR)).lay ?_
              exact RetG_2 (.inl rfl) rfl (ResV.agg rfl rfl) (ResV.tmp rfl) GivesTo.g (⟨msg0, mP0, 10, rfl, rfl, msg0_ok, .inr ⟨rfl, hdn⟩⟩)
            · refine T_skip ?_
              refine thenS_normal ?_
              refine T_region ?_
              refine TL_y rfl rfl (Y_load_agg rfl rfl) ?_
              refine TL_store rfl rfl rfl rfl rfl rfl ?_
              refine TL_y rfl rfl (Y_assign rfl) ?_
              refine TL_nil ?_
              refine T_ret ?_
              have hres : MsgRes (strBytes x) ⟨x0, x1, x2, x3, x4, x5, xs, x7, es, x9⟩ 0 := (by rw [hx]; exact ⟨_, s9, hmr, .inl ⟨rfl, rfl, by simpa using h96, List.eq_nil_of_length_eq_zero (by omega), by omega⟩⟩)
              have hd := (dec_res (x := x) hres (fun h => absurd h (by decide))).elim (fun h => h) (fun h => absurd h.1 (by decide))
              exact RetG_2 (.inl rfl) rfl (ResV.agg rfl rfl) (ResV.tmp rfl) GivesTo.g (⟨⟨x0, x1, x2, x3, x4, x5, xs, x7, es, x9⟩, ⟨(A5, c5), (A6, c6), (A7, c7), (A8, c8)⟩, 0, rfl, rfl, hmr.iv, .inl ⟨rfl, hd.2.1, hd.2.2.1⟩⟩)
    · refine TL_gskip rfl rfl rfl rfl ?_
      refine TL_gskip rfl rfl rfl rfl ?_
      refine TL_gskip rfl rfl rfl rfl ?_
      refine TL_gskip rfl rfl rfl rfl ?_
      refine TL_y rfl rfl (Y_pick_f rfl rfl) ?_
      refine TL_nil ?_
      refine T_cond_false rfl ?_
      refine T_exit ?_
      refine thenS_exit ?_
      refine thenS_exit ?_
      refine inB_hit ?_
      refine thenS_normal ?_
      have hd6 : xs.length = m6 ∨ st.bad = true := .inl (by omega)
      have h7' := hli.done (most := 4096) (by decide) h6 hl hd6
      refine T_freeze_osl ?_
      refine T_region ?_
      refine TL_y rfl rfl (Y_move rfl) ?_
      refine TL_pullk b16 ?_
      refine TL_call rfl rfl (rrvector_spec (by omega)) ?_
      rintro _ _ ⟨x7, A7, c7, s7, rfl, rfl, h7⟩
      have ht7 := h7.tot
      refine TL_y rfl rfl (Y_field_addr rfl) ?_
      refine TL_store rfl rfl rfl rfl rfl rfl ?_
      refine TL_nil ?_
      refine T_region ?_
      refine TL_y rfl rfl (Y_move rfl) ?_
      refine TL_pullk b16 ?_
      refine TL_call rfl rfl (rnumber_spec 4096 (by decide) (by omega)) ?_
      rintro _ _ ⟨y8, s8, rfl, rfl, h8⟩
      obtain ⟨m8, rfl⟩ : ∃ m : Nat, y8 = (m : Int) := ⟨y8.toNat, by have := h8.iv; unfold rNum at this; omega⟩
      have hm8 := h8.iv
      unfold rNum at hm8
      have ht8 := h8.tot
      refine TL_y rfl rfl (Y_assign rfl) ?_
      refine TL_nil ?_
      refine T_seq ?_
      refine T_region ?_
      refine TL_y rfl rfl (Y_assign rfl) ?_
      refine TL_nil ?_
      refine T_block ?_
      refine T_loopK (σ := LsS EventD) [2, 4, 5, 6] (fun g => g.xs.length ≤ m8 ∧ LI rEvent eventOk bEvent m8 s8 g.xs g.s) (fun g kv => (9, .int .i64 (g.xs.length : Int)) :: kv) (fun g => osl eventR 85 g.A g.c g.xs :: cells b5 (msgC ⟨x0, x1, x2, x3, x4, x5, xs, x7, g.xs, 0⟩ ⟨(A5, c5), (A6, c6), (A7, c7), (g.A, g.c)⟩) 49 :: rrd b16 g.s :: sl (intR .i64) A7 c7 x7 :: sl votedR A6 c6 xs :: sl (intR .i64) A5 c5 x5.order.cut :: cells b2 (msgC msg0 mP0) 49 :: L) (fun g => m8 - g.xs.length) (⟨[], s8, none, 0⟩) rfl (⟨Nat.zero_le _, LI.zero⟩) ((osl_nil eventR 85 none _).trans (show Gives _ (osl eventR 85 none 0 [] :: cells b5 (msgC ⟨x0, x1, x2, x3, x4, x5, xs, x7, [], 0⟩ ⟨(A5, c5), (A6, c6), (A7, c7), (none, 0)⟩) 49 :: rrd b16 s8 :: sl (intR .i64) A7 c7 x7 :: sl votedR A6 c6 xs :: sl (intR .i64) A5 c5 x5.order.cut :: cells b2 (msgC msg0 mP0) 49 :: L) from GivesTo.g)) (sub_cons rfl (sub_cons rfl (sub_cons rfl (sub_cons rfl (sub_cons rfl (sub_nil)))))) ?_
      rintro ⟨es, st2, A8, c8⟩ ⟨hl2, hli2⟩
      dsimp only at hl2 hli2 ⊢
      have htot3 := hli2.tot
      refine T_seq ?_
      refine T_region ?_
      refine TL_y rfl rfl (Y_move rfl) ?_
      refine TL_y rfl rfl (Y_move rfl) ?_
      refine TL_y rfl rfl (Y_lt rfl rfl) ?_
      refine TL_y rfl rfl (Y_move rfl) ?_
      refine TL_splitd 73 rfl (fun h73 => ?_) (fun h73 => ?_)
      · refine TL_grun rfl rfl ?_
        refine TL_y rfl rfl (Y_move rfl) ?_
        refine TL_grun rfl rfl ?_
        refine TL_y rfl rfl (Y_nil_check rfl) ?_
        refine TL_grun rfl rfl ?_
        refine TL_y rfl rfl (Y_field_addr rfl) ?_
        refine TL_grun rfl rfl ?_
        refine TL_y rfl rfl (Y_load_rrd rfl) ?_
        refine TL_y rfl rfl (Y_pick_t rfl rfl) ?_
        refine TL_nil ?_
        refine T_cond rfl (fun h78 => ?_) (fun h78 => ?_)
        · refine T_skip ?_
          refine thenS_normal ?_
          refine T_seq ?_
          refine T_block ?_
          refine T_region_draw_last (cells b5 (msgC ⟨x0, x1, x2, x3, x4, x5, xs, x7, es, 0⟩ ⟨(A5, c5), (A6, c6), (A7, c7), (A8, c8)⟩) 49 :: []) [0, 1, 0, 4, 12, 31, 63, 127] [7] [(0, true), (1, true), (2, true), (3, false), (4, false), (5, false), (6, true), (7, false)] (by kernel_rfl) (by decide +kernel) GivesTo.g ?_
          refine TF_y rfl rfl (Y_field_addr rfl) ?_
          refine TF_y rfl rfl (Y_load rfl rfl) ?_
          refine TF_y rfl rfl (Y_move rfl) ?_
          refine TF_anchor rfl ?_
          refine TL_pullk b16 ?_
          refine TL_call rfl rfl (rrevent_spec (by omega)) ?_
          rintro _ _ ⟨ev, A84, c84, q3, rfl, rfl, g3⟩
          refine TF_end GivesTo.g ?_
          refine TF_anchor rfl ?_
          refine TL_build_slice rfl rfl rfl rfl rfl rfl ?_
          intro b85
          refine TL_osl (k := 1) eventR [ev] (one_cell (ex_rep (A84, c84) (sep_sl slk) g3.iv)) rfl (by decide) ?_
          refine TL_freeze_osl ?_
          refine TL_name 85 (v' := .slice (some ⟨b85, 0, none⟩) [ev].length 1) rfl rfl ?_
          refine TF_end GivesTo.g ?_
          refine TF_anchor rfl ?_
          refine TL_append rfl rfl rfl rfl rfl slk (by simp only [List.length_cons, List.length_nil]; omega) ?_
          intro A86 c86
          refine TF_end GivesTo.g ?_
          refine TF_y rfl rfl (Y_field_addr rfl) ?_
          refine TF_anchor rfl ?_
          refine TL_store rfl rfl rfl rfl rfl rfl ?_
          refine TF_end_tail rfl ?_
          refine TF_nil ?_
          refine inB_normal ?_
          refine thenS_normal ?_
          refine T_region_last ?_
          refine TL_y rfl rfl (Y_move rfl) ?_
          refine TL_y rfl rfl (Y_add rfl rfl (by omega)) ?_
          refine TL_name 80 (v' := .int .i64 ((es ++ [ev]).length : Int)) rfl (by congr 1; simp) ?_
          refine TL_y rfl rfl (Y_assign rfl) ?_
          refine TL_nil ?_
          refine thenS_normal ?_
          exact ⟨⟨es ++ [ev], q3, A86, c86⟩, ⟨by simp only [List.length_append, List.length_cons, List.length_nil]; omega, hli2.next pf_event (by omega) g3⟩, by simp only [List.length_append, List.length_cons, List.length_nil]; omega, holds_to (sub_cons rfl (sub_cons rfl (sub_cons rfl (sub_cons rfl (sub_cons rfl (sub_nil)))))) GivesTo.g⟩
        · refine T_exit ?_
          refine thenS_exit ?_
          refine thenS_exit ?_
          refine inB_hit ?_
          refine thenS_normal ?_
          have hd8 : es.length = m8 ∨ st2.bad = true := .inr (by simpa using h78)
          have h9' := hli2.done (most := 4096) (by decide) h8 hl2 hd8
          refine T_freeze_osl ?_
          refine T_region ?_
          refine TL_y rfl rfl (Y_move rfl) ?_
          refine TL_pullk b16 ?_
          refine TL_call rfl rfl (rnumber_spec 4611686018427387904 (by decide) (by omega)) ?_
          rintro _ _ ⟨x9, s9, rfl, rfl, h9⟩
          refine TL_y rfl rfl (Y_field_addr rfl) ?_
          refine TL_store rfl rfl rfl rfl rfl rfl ?_
          refine TL_nil ?_
          refine T_seq ?_
          have hmr := msgRd h0 h1 h2 h3 h4 h5 h7' h7 h9' h9
          refine T_pullk b16 ?_
          refine T_rrd fun Ar cr => ?_
          refine T_region ?_
          refine TL_y rfl rfl (Y_move rfl) ?_
          refine TL_y rfl rfl (Y_nil_check rfl) ?_
          refine TL_y rfl rfl (Y_field_addr rfl) ?_
          refine TL_y rfl rfl (Y_load rfl rfl) ?_
          refine TL_y rfl rfl (Y_not rfl) ?_
          refine TL_y rfl rfl (Y_move rfl) ?_
          refine TL_split 96 rfl (fun h96 => ?_) (fun h96 => ?_)
          · refine TL_gskip rfl rfl rfl rfl ?_
            refine TL_gskip rfl rfl rfl rfl ?_
            refine TL_gskip rfl rfl rfl rfl ?_
            refine TL_gskip rfl rfl rfl rfl ?_
            refine TL_gskip rfl rfl rfl rfl ?_
            refine TL_gskip rfl rfl rfl rfl ?_
            refine TL_y rfl rfl (Y_pick_t rfl rfl) ?_
            refine TL_nil ?_
            refine T_cond_true rfl ?_
            refine T_region ?_
            refine TL_y rfl rfl (Y_build rfl rfl) ?_
            refine TL_store rfl rfl rfl rfl rfl rfl ?_
            refine TL_y rfl rfl (Y_assign rfl) ?_
            refine TL_nil ?_
            refine T_ret ?_
            refine thenS_ret ?_
            have hres : MsgRes (strBytes x) msg0 10 := (by rw [hx]; exact ⟨_, s9, hmr, .inr ⟨rfl, .inl (by simpa using h96)⟩⟩)
            have hdn : decM x = none := (dec_res (x := x) (m := msg0) (e := 10) hres (fun _ => rfl)).elim (fun h => absurd h.1 (by decide)) (fun h => h.2.2)
            refine RetQ.gives (slnil (A := none) (c := 0) (R := intR .i64)).lay ?_
            refine RetQ.gives (slnil (A := none) (c := 0) (R := intR .i64)).lay ?_
            refine RetQ.gives (slnil (A := none) (c := 0) (R := votedR)).lay ?_
            refine RetQ.gives (slnil (A := none) (c := 0) (R := eventR)).lay ?_
            exact RetG_2 (.inl rfl) rfl (ResV.agg rfl rfl) (ResV.tmp rfl) GivesTo.g (⟨msg0, mP0, 10, rfl, rfl, msg0_ok, .inr ⟨rfl, hdn⟩⟩)
          · refine TL_grun rfl rfl ?_
            refine TL_y rfl rfl (Y_move rfl) ?_
            refine TL_grun rfl rfl ?_
            refine TL_y rfl rfl (Y_nil_check rfl) ?_
            refine TL_grun rfl rfl ?_
            refine TL_y rfl rfl (Y_field_addr rfl) ?_
            refine TL_grun rfl rfl ?_
            refine TL_y rfl rfl (Y_load rfl rfl) ?_
            refine TL_grun rfl rfl ?_
            refine TL_y rfl rfl (Y_len rfl) ?_
            refine TL_grun rfl rfl ?_
            refine TL_y rfl rfl (Y_gt rfl rfl) ?_
            refine TL_y rfl rfl (Y_pick_f rfl rfl) ?_
            refine TL_nil ?_
            refine T_if rfl (fun h103 => ?_) (fun h103 => ?_)
            · refine T_region ?_
              refine TL_y rfl rfl (Y_build rfl rfl) ?_
              refine TL_store rfl rfl rfl rfl rfl rfl ?_
              refine TL_y rfl rfl (Y_assign rfl) ?_
              refine TL_nil ?_
              refine T_ret ?_
              refine thenS_ret ?_
              have hres : MsgRes (strBytes x) msg0 10 := (by rw [hx]; exact ⟨_, s9, hmr, .inr ⟨rfl, .inr (.inl (fun e => by rw [e] at h103; simp at h103))⟩⟩)
              have hdn : decM x = none := (dec_res (x := x) (m := msg0) (e := 10) hres (fun _ => rfl)).elim (fun h => absurd h.1 (by decide)) (fun h => h.2.2)
              refine RetQ.gives (slnil (A := none) (c := 0) (R := intR .i64)).lay ?_
              refine RetQ.gives (slnil (A := none) (c := 0) (R := intR .i64)).lay ?_
              refine RetQ.gives (slnil (A := none) (c := 0) (R := votedR)).lay ?_
              refine RetQ.gives (slnil (A := none) (c := 0) (R := eventR)).lay ?_
              exact RetG_2 (.inl rfl) rfl (ResV.agg rfl rfl) (ResV.tmp rfl) GivesTo.g (⟨msg0, mP0, 10, rfl, rfl, msg0_ok, .inr ⟨rfl, hdn⟩⟩)
            · refine T_skip ?_
              refine thenS_normal ?_
              refine T_region ?_
              refine TL_y rfl rfl (Y_load_agg rfl rfl) ?_
              refine TL_store rfl rfl rfl rfl rfl rfl ?_
              refine TL_y rfl rfl (Y_assign rfl) ?_
              refine TL_nil ?_
              refine T_ret ?_
              have hres : MsgRes (strBytes x) ⟨x0, x1, x2, x3, x4, x5, xs, x7, es, x9⟩ 0 := (by rw [hx]; exact ⟨_, s9, hmr, .inl ⟨rfl, rfl, by simpa using h96, List.eq_nil_of_length_eq_zero (by omega), by omega⟩⟩)
              have hd := (dec_res (x := x) hres (fun h => absurd h (by decide))).elim (fun h => h) (fun h => absurd h.1 (by decide))
              exact RetG_2 (.inl rfl) rfl (ResV.agg rfl rfl) (ResV.tmp rfl) GivesTo.g (⟨⟨x0, x1, x2, x3, x4, x5, xs, x7, es, x9⟩, ⟨(A5, c5), (A6, c6), (A7, c7), (A8, c8)⟩, 0, rfl, rfl, hmr.iv, .inl ⟨rfl, hd.2.1, hd.2.2.1⟩⟩)
      · refine TL_gskip rfl rfl rfl rfl ?_
        refine TL_gskip rfl rfl rfl rfl ?_
        refine TL_gskip rfl rfl rfl rfl ?_
        refine TL_gskip rfl rfl rfl rfl ?_
        refine TL_y rfl rfl (Y_pick_f rfl rfl) ?_
        refine TL_nil ?_
        refine T_cond_false rfl ?_
        refine T_exit ?_
        refine thenS_exit ?_
        refine thenS_exit ?_
        refine inB_hit ?_
        refine thenS_normal ?_
        have hd8 : es.length = m8 ∨ st2.bad = true := .inl (by omega)
        have h9' := hli2.done (most := 4096) (by decide) h8 hl2 hd8
        refine T_freeze_osl ?_
        refine T_region ?_
        refine TL_y rfl rfl (Y_move rfl) ?_
        refine TL_pullk b16 ?_
        refine TL_call rfl rfl (rnumber_spec 4611686018427387904 (by decide) (by omega)) ?_
        rintro _ _ ⟨x9, s9, rfl, rfl, h9⟩
        refine TL_y rfl rfl (Y_field_addr rfl) ?_
        refine TL_store rfl rfl rfl rfl rfl rfl ?_
        refine TL_nil ?_
        refine T_seq ?_
        have hmr := msgRd h0 h1 h2 h3 h4 h5 h7' h7 h9' h9
        refine T_pullk b16 ?_
        refine T_rrd fun Ar cr => ?_
        refine T_region ?_
        refine TL_y rfl rfl (Y_move rfl) ?_
        refine TL_y rfl rfl (Y_nil_check rfl) ?_
        refine TL_y rfl rfl (Y_field_addr rfl) ?_
        refine TL_y rfl rfl (Y_load rfl rfl) ?_
        refine TL_y rfl rfl (Y_not rfl) ?_
        refine TL_y rfl rfl (Y_move rfl) ?_
        refine TL_split 96 rfl (fun h96 => ?_) (fun h96 => ?_)
        · refine TL_gskip rfl rfl rfl rfl ?_
          refine TL_gskip rfl rfl rfl rfl ?_
          refine TL_gskip rfl rfl rfl rfl ?_
          refine TL_gskip rfl rfl rfl rfl ?_
          refine TL_gskip rfl rfl rfl rfl ?_
          refine TL_gskip rfl rfl rfl rfl ?_
          refine TL_y rfl rfl (Y_pick_t rfl rfl) ?_
          refine TL_nil ?_
          refine T_cond_true rfl ?_
          refine T_region ?_
          refine TL_y rfl rfl (Y_build rfl rfl) ?_
          refine TL_store rfl rfl rfl rfl rfl rfl ?_
          refine TL_y rfl rfl (Y_assign rfl) ?_
          refine TL_nil ?_
          refine T_ret ?_
          refine thenS_ret ?_
          have hres : MsgRes (strBytes x) msg0 10 := (by rw [hx]; exact ⟨_, s9, hmr, .inr ⟨rfl, .inl (by simpa using h96)⟩⟩)
          have hdn : decM x = none := (dec_res (x := x) (m := msg0) (e := 10) hres (fun _ => rfl)).elim (fun h => absurd h.1 (by decide)) (fun h => h.2.2)
          refine RetQ.gives (slnil (A := none) (c := 0) (R := intR .i64)).lay ?_
          refine RetQ.gives (slnil (A := none) (c := 0) (R := intR .i64)).lay ?_
          refine RetQ.gives (slnil (A := none) (c := 0) (R := votedR)).lay ?_
          refine RetQ.gives (slnil (A := none) (c := 0) (R := eventR)).lay ?_
          exact RetG_2 (.inl rfl) rfl (ResV.agg rfl rfl) (ResV.tmp rfl) GivesTo.g (⟨msg0, mP0, 10, rfl, rfl, msg0_ok, .inr ⟨rfl, hdn⟩⟩)
        · refine TL_grun rfl rfl ?_
          refine TL_y rfl rfl (Y_move rfl) ?_
          refine TL_grun rfl rfl ?_
          refine TL_y rfl rfl (Y_nil_check rfl) ?_
          refine TL_grun rfl rfl ?_
          refine TL_y rfl rfl (Y_field_addr rfl) ?_
          refine TL_grun rfl rfl ?_
          refine TL_y rfl rfl (Y_load rfl rfl) ?_
          refine TL_grun rfl rfl ?_
          refine TL_y rfl rfl (Y_len rfl) ?_
          refine TL_grun rfl rfl ?_
          refine TL_y rfl rfl (Y_gt rfl rfl) ?_
          refine TL_y rfl rfl (Y_pick_f rfl rfl) ?_
          refine TL_nil ?_
          refine T_if rfl (fun h103 => ?_) (fun h103 => ?_)
          · refine T_region ?_
            refine TL_y rfl rfl (Y_build rfl rfl) ?_
            refine TL_store rfl rfl rfl rfl rfl rfl ?_
            refine TL_y rfl rfl (Y_assign rfl) ?_
            refine TL_nil ?_
            refine T_ret ?_
            refine thenS_ret ?_
            have hres : MsgRes (strBytes x) msg0 10 := (by rw [hx]; exact ⟨_, s9, hmr, .inr ⟨rfl, .inr (.inl (fun e => by rw [e] at h103; simp at h103))⟩⟩)
            have hdn : decM x = none := (dec_res (x := x) (m := msg0) (e := 10) hres (fun _ => rfl)).elim (fun h => absurd h.1 (by decide)) (fun h => h.2.2)
            refine RetQ.gives (slnil (A := none) (c := 0) (R := intR .i64)).lay ?_
            refine RetQ.gives (slnil (A := none) (c := 0) (R := intR .i64)).lay ?_
            refine RetQ.gives (slnil (A := none) (c := 0) (R := votedR)).lay ?_
            refine RetQ.gives (slnil (A := none) (c := 0) (R := eventR)).lay ?_
            exact RetG_2 (.inl rfl) rfl (ResV.agg rfl rfl) (ResV.tmp rfl) GivesTo.g (⟨msg0, mP0, 10, rfl, rfl, msg0_ok, .inr ⟨rfl, hdn⟩⟩)
          · refine T_skip ?_
            refine thenS_normal ?_
            refine T_region ?_
            refine TL_y rfl rfl (Y_load_agg rfl rfl) ?_
            refine TL_store rfl rfl rfl rfl rfl rfl ?_
            refine TL_y rfl rfl (Y_assign rfl) ?_
            refine TL_nil ?_
            refine T_ret ?_
            have hres : MsgRes (strBytes x) ⟨x0, x1, x2, x3, x4, x5, xs, x7, es, x9⟩ 0 := (by rw [hx]; exact ⟨_, s9, hmr, .inl ⟨rfl, rfl, by simpa using h96, List.eq_nil_of_length_eq_zero (by omega), by omega⟩⟩)
            have hd := (dec_res (x := x) hres (fun h => absurd h (by decide))).elim (fun h => h) (fun h => absurd h.1 (by decide))
            exact RetG_2 (.inl rfl) rfl (ResV.agg rfl rfl) (ResV.tmp rfl) GivesTo.g (⟨⟨x0, x1, x2, x3, x4, x5, xs, x7, es, x9⟩, ⟨(A5, c5), (A6, c6), (A7, c7), (A8, c8)⟩, 0, rfl, rfl, hmr.iv, .inl ⟨rfl, hd.2.1, hd.2.2.1⟩⟩)
end Go.SL
set_option linter.unusedVariables false
set_option linter.unusedSimpArgs false
namespace Go.SL
open Go Go.Proofs
theorem refFork16_spec {L : List HP} {b : Nat} {s : AccD} (hi : AI s) : Fn Tryz.prog 16 #[.pointer (some ⟨b, 0, none⟩)] (ra b s :: L) (fun v L' => ∃ b', v = .pointer (some ⟨b', 0, none⟩) ∧ L' = ra b' s :: ra b s :: L) := by
  have hlen := hi.len
  refine Fn_enter Tryz.func16 rfl rfl rfl rfl ?_
  refine T_ra fun A c hlc => ?_
  refine T_region ?_
  refine TL_y rfl rfl (Y_assign rfl) ?_
  refine TL_nil ?_
  refine T_region_draw (cells b [.int .i64 s.node, .int .i64 s.prom.1, .int .i64 s.prom.2, .slice A s.V.length c] 41 :: []) [0, 1, 3, 7, 0, 16, 48, 112, 0, 0, 512, 1536, 3584, 7936, 16383, 32767, 65535] [] [(0, true), (1, true), (2, true), (3, true), (4, true), (5, true), (6, true), (7, true), (9, true), (10, true), (11, true), (12, true), (8, false), (13, false), (14, true), (15, false), (16, true)] (by kernel_rfl) (by decide +kernel) GivesTo.g ?_
  refine TF_y rfl rfl (Y_move rfl) ?_
  refine TF_y rfl rfl (Y_nil_check rfl) ?_
  refine TF_y rfl rfl (Y_field_addr rfl) ?_
  refine TF_y rfl rfl (Y_load rfl rfl) ?_
  refine TF_y rfl rfl (Y_move rfl) ?_
  refine TF_y rfl rfl (Y_nil_check rfl) ?_
  refine TF_y rfl rfl (Y_field_addr rfl) ?_
  refine TF_y rfl rfl (Y_load_agg rfl rfl) ?_
  refine TF_y rfl rfl (Y_move rfl) ?_
  refine TF_y rfl rfl (Y_nil_check rfl) ?_
  refine TF_y rfl rfl (Y_field_addr rfl) ?_
  refine TF_y rfl rfl (Y_load rfl rfl) ?_
  refine TF_anchor rfl ?_
  refine TL_build_slice rfl rfl rfl rfl rfl rfl ?_
  intro b11
  refine TL_osl (k := 0) votedR [] (Knows.const fun M => rfl) rfl (by simp) ?_
  refine TL_name 11 (v' := .slice (some ⟨b11, 0, none⟩) ([] : List VotedD).length 0) rfl rfl ?_
  refine TF_end GivesTo.g ?_
  refine TF_anchor rfl ?_
  refine TL_append_n (R := votedR) rfl rfl rfl rfl rfl (sln (A := A) (c := c) (xs := s.V)) (by simp only [List.length_nil]; omega) ?_
  intro A16 c16
  simp only [List.nil_append]
  refine TF_end GivesTo.g ?_
  refine TF_y rfl rfl (Y_build rfl rfl) ?_
  refine TF_anchor rfl ?_
  refine TL_box rfl rfl rfl ?_
  intro b18
  refine TF_end GivesTo.g ?_
  refine TF_y rfl rfl (Y_assign rfl) ?_
  refine TF_nil ?_
  refine T_ret ?_
  refine RetQ.gives (ra_close (A := A16) (c := c16) b18 s) ?_
  refine RetQ.gives (ra_close (A := A) (c := c) b s) ?_
  refine RetQ.gives (show Gives _ (ra b18 s :: ra b s :: L) from GivesTo.g) ?_
  exact RetG_1 (.inl rfl) rfl (ResV.tmp rfl) GivesTo.g (⟨b18, rfl, rfl⟩)
theorem rep_kind {s : AccD} {m : MsgD} (h : mineA s m) : (repA s m).kind = 5 ↔ nackA s m := by
  unfold repA
  rw [if_pos h]
  by_cases hn : nackA s m
  · rw [if_pos hn]; exact ⟨fun _ => hn, fun _ => rfl⟩
  · rw [if_neg hn]
    refine ⟨fun h2 => ?_, fun h2 => absurd h2 hn⟩
    split at h2 <;> exact absurd h2 (by show ¬ ((_ : Int) = 5); simp [repM])
set_option maxHeartbeats 1000000 in
theorem refReplay_spec {L : List HP} {b : Nat} {s : AccD} (hi : AI s) (x : ByteArray) (hx : x.size ≤ 140737488355328) : Fn Tryz.prog 8 #[.pointer (some ⟨b, 0, none⟩), .string x] (ra b s :: L) (fun v L' => v = .int .i64 (replE s x) ∧ L' = ra b (replS s x) :: L) := by
  refine Fn_enter Tryz.func8 rfl rfl rfl rfl ?_
  refine T_region ?_
  refine TL_y rfl rfl (Y_assign rfl) ?_
  refine TL_nil ?_
  refine T_region ?_
  refine TL_y rfl rfl (Y_move rfl) ?_
  refine TL_str_bytes rfl rfl (by simp only [maxEl]; omega) ?_
  intro A12 c12
  refine TL_call rfl rfl (refReadMsg_spec x rfl slk) ?_
  rintro _ _ ⟨m, p, e, rfl, rfl, hok, hres⟩
  refine TL_y rfl rfl (Y_move rfl) ?_
  refine TL_y rfl rfl (Y_extract rfl rfl) ?_
  refine TL_y rfl rfl (Y_extract rfl rfl) ?_
  refine TL_alloc rfl rfl ?_
  intro b5
  refine TL_store rfl rfl rfl rfl rfl rfl ?_
  refine TL_y rfl rfl (Y_assign rfl) ?_
  refine TL_nil ?_
  refine T_seq ?_
  rcases hres with ⟨rfl, hr, hd⟩ | ⟨rfl, hd⟩
  · refine T_region ?_
    refine TL_y rfl rfl (Y_move rfl) ?_
    refine TL_y rfl rfl (Y_ne rfl rfl) ?_
    refine TL_name 17 (v' := .bool false) rfl (congrArg Value.bool (decide_eq_false (by decide))) ?_
    refine TL_nil ?_
    refine T_cond_false rfl ?_
    refine T_skip ?_
    refine thenS_normal ?_
    refine T_rd [0, 1, 0, 7, 15, 31, 31, 31, 0, 319, 895, 2047] (by kernel_rfl) (by decide +kernel) ?_
    refine RD_pair 1 8 (by decide) ?_ ?_
    · refine RD_pair 3 8 (by decide) ?_ ?_
      · refine RD_leaf (cells b5 (msgC m p) 49 :: []) [0, 1, 0, 7, 15, 31, 31, 31, 15, 319, 895, 2047] [] [(0, true), (2, true), (1, false), (3, false), (4, true), (5, true), (6, true), (7, true), (8, false), (9, false), (10, true), (11, true)] (by decide +kernel) GivesTo.g ?_
        refine TF_y rfl rfl (Y_move rfl) ?_
        refine TF_y rfl rfl (Y_load_agg rfl rfl) ?_
        refine TF_anchor rfl ?_
        refine TL_pullk b ?_
        refine TL_call rfl rfl (refFork16_spec hi) ?_
        rintro _ _ ⟨b20, rfl, rfl⟩
        refine TF_end GivesTo.g ?_
        refine TF_anchor rfl ?_
        refine TL_pullk b20 ?_
        refine TL_call rfl rfl (refOn16_spec hi m p hok ⟨slk, slk, slk, slk⟩) ?_
        rintro _ _ ⟨q22, rfl, rfl⟩
        refine TF_end GivesTo.g ?_
        refine TF_y rfl rfl (Y_move rfl) ?_
        refine TF_y rfl rfl (Y_extract rfl rfl) ?_
        refine TF_y rfl rfl (Y_extract rfl rfl) ?_
        refine TF_y rfl rfl (Y_extract rfl rfl) ?_
        refine TF_anchor rfl ?_
        refine TL_alloc rfl rfl ?_
        intro b7
        refine TF_end GivesTo.g ?_
        refine TF_anchor rfl ?_
        refine TL_store rfl rfl rfl rfl rfl rfl ?_
        refine TF_end GivesTo.g ?_
        refine TF_y rfl rfl (Y_assign rfl) ?_
        refine TF_y rfl rfl (Y_assign rfl) ?_
        refine TF_nil ?_
        refine thenS_normal ?_
        refine T_seq ?_
        rcases Classical.em (mineA s m) with hm | hm <;> rcases Classical.em (nackA s m) with hn | hn
        · refine T_region ?_
          refine TL_y rfl rfl (Y_move rfl) ?_
          refine TL_name 26 (v' := .bool true) rfl (congrArg Value.bool (decide_eq_true hm)) ?_
          refine TL_y rfl rfl (Y_not_t rfl) ?_
          refine TL_y rfl rfl (Y_move rfl) ?_
          refine TL_grun rfl rfl ?_
          refine TL_y rfl rfl (Y_field_addr rfl) ?_
          refine TL_grun rfl rfl ?_
          refine TL_y rfl rfl (Y_load rfl rfl) ?_
          refine TL_grun rfl rfl ?_
          refine TL_y rfl rfl (Y_eq rfl rfl) ?_
          refine TL_name 31 (v' := .bool true) rfl (congrArg Value.bool (decide_eq_true ((rep_kind hm).2 hn))) ?_
          refine TL_y rfl rfl (Y_pick_f rfl rfl) ?_
          refine TL_nil ?_
          refine T_cond_true rfl ?_
          refine T_region ?_
          refine TL_y rfl rfl (Y_assign rfl) ?_
          refine TL_nil ?_
          refine T_ret ?_
          refine thenS_ret ?_
          rw [show (replE s x : Int) = 10 by unfold replE; rw [hd]; exact if_neg (fun h => h.2 hn), show replS s x = s by unfold replS; rw [hd]; exact stA_same (fun h => h.2 hn)]
          exact RetG_1 (.inl rfl) rfl (ResV.tmp rfl) GivesTo.g (⟨rfl, rfl⟩)
        · refine T_region ?_
          refine TL_y rfl rfl (Y_move rfl) ?_
          refine TL_name 26 (v' := .bool true) rfl (congrArg Value.bool (decide_eq_true hm)) ?_
          refine TL_y rfl rfl (Y_not_t rfl) ?_
          refine TL_y rfl rfl (Y_move rfl) ?_
          refine TL_grun rfl rfl ?_
          refine TL_y rfl rfl (Y_field_addr rfl) ?_
          refine TL_grun rfl rfl ?_
          refine TL_y rfl rfl (Y_load rfl rfl) ?_
          refine TL_grun rfl rfl ?_
          refine TL_y rfl rfl (Y_eq rfl rfl) ?_
          refine TL_name 31 (v' := .bool false) rfl (congrArg Value.bool (decide_eq_false (fun h => hn ((rep_kind hm).1 h)))) ?_
          refine TL_y rfl rfl (Y_pick_f rfl rfl) ?_
          refine TL_nil ?_
          refine T_cond_false rfl ?_
          refine T_skip ?_
          refine thenS_normal ?_
          refine T_region ?_
          refine TL_y rfl rfl (Y_move rfl) ?_
          refine TL_y rfl rfl (Y_load_agg rfl rfl) ?_
          refine TL_pullk b ?_
          refine TL_call rfl rfl (refOn16_spec hi m p hok ⟨slk, slk, slk, slk⟩) ?_
          rintro _ _ ⟨q35, rfl, rfl⟩
          refine TL_nil ?_
          refine T_region ?_
          refine TL_y rfl rfl (Y_assign rfl) ?_
          refine TL_nil ?_
          refine T_ret ?_
          rw [show (replE s x : Int) = 0 by unfold replE; rw [hd]; exact if_pos ⟨hm, hn⟩, show replS s x = stA s m by unfold replS; rw [hd]]
          exact RetG_1 (.inl rfl) rfl (ResV.tmp rfl) GivesTo.g (⟨rfl, rfl⟩)
        · refine T_region ?_
          refine TL_y rfl rfl (Y_move rfl) ?_
          refine TL_name 26 (v' := .bool false) rfl (congrArg Value.bool (decide_eq_false hm)) ?_
          refine TL_y rfl rfl (Y_not_f rfl) ?_
          refine TL_y rfl rfl (Y_move rfl) ?_
          refine TL_gskip rfl rfl rfl rfl ?_
          refine TL_gskip rfl rfl rfl rfl ?_
          refine TL_gskip rfl rfl rfl rfl ?_
          refine TL_y rfl rfl (Y_pick_t rfl rfl) ?_
          refine TL_nil ?_
          refine T_cond_true rfl ?_
          refine T_region ?_
          refine TL_y rfl rfl (Y_assign rfl) ?_
          refine TL_nil ?_
          refine T_ret ?_
          refine thenS_ret ?_
          rw [show (replE s x : Int) = 10 by unfold replE; rw [hd]; exact if_neg (fun h => hm h.1), show replS s x = s by unfold replS; rw [hd]; exact stA_same (fun h => hm h.1)]
          exact RetG_1 (.inl rfl) rfl (ResV.tmp rfl) GivesTo.g (⟨rfl, rfl⟩)
        · refine T_region ?_
          refine TL_y rfl rfl (Y_move rfl) ?_
          refine TL_name 26 (v' := .bool false) rfl (congrArg Value.bool (decide_eq_false hm)) ?_
          refine TL_y rfl rfl (Y_not_f rfl) ?_
          refine TL_y rfl rfl (Y_move rfl) ?_
          refine TL_gskip rfl rfl rfl rfl ?_
          refine TL_gskip rfl rfl rfl rfl ?_
          refine TL_gskip rfl rfl rfl rfl ?_
          refine TL_y rfl rfl (Y_pick_t rfl rfl) ?_
          refine TL_nil ?_
          refine T_cond_true rfl ?_
          refine T_region ?_
          refine TL_y rfl rfl (Y_assign rfl) ?_
          refine TL_nil ?_
          refine T_ret ?_
          refine thenS_ret ?_
          rw [show (replE s x : Int) = 10 by unfold replE; rw [hd]; exact if_neg (fun h => hm h.1), show replS s x = s by unfold replS; rw [hd]; exact stA_same (fun h => hm h.1)]
          exact RetG_1 (.inl rfl) rfl (ResV.tmp rfl) GivesTo.g (⟨rfl, rfl⟩)
      · refine RD_leaf (cells b5 (msgC m p) 49 :: []) [0, 1, 0, 263, 271, 287, 287, 287, 3, 319, 895, 2047] [] [(0, true), (2, true), (1, false), (8, false), (3, false), (4, true), (5, true), (6, true), (7, true), (9, false), (10, true), (11, true)] (by decide +kernel) GivesTo.g ?_
        refine TF_y rfl rfl (Y_move rfl) ?_
        refine TF_y rfl rfl (Y_load_agg rfl rfl) ?_
        refine TF_anchor rfl ?_
        refine TL_pullk b ?_
        refine TL_call rfl rfl (refFork16_spec hi) ?_
        rintro _ _ ⟨b20, rfl, rfl⟩
        refine TF_end GivesTo.g ?_
        refine TF_anchor rfl ?_
        refine TL_alloc rfl rfl ?_
        intro b7
        refine TF_end GivesTo.g ?_
        refine TF_anchor rfl ?_
        refine TL_pullk b20 ?_
        refine TL_call rfl rfl (refOn16_spec hi m p hok ⟨slk, slk, slk, slk⟩) ?_
        rintro _ _ ⟨q22, rfl, rfl⟩
        refine TF_end GivesTo.g ?_
        refine TF_y rfl rfl (Y_move rfl) ?_
        refine TF_y rfl rfl (Y_extract rfl rfl) ?_
        refine TF_y rfl rfl (Y_extract rfl rfl) ?_
        refine TF_y rfl rfl (Y_extract rfl rfl) ?_
        refine TF_anchor rfl ?_
        refine TL_store rfl rfl rfl rfl rfl rfl ?_
        refine TF_end GivesTo.g ?_
        refine TF_y rfl rfl (Y_assign rfl) ?_
        refine TF_y rfl rfl (Y_assign rfl) ?_
        refine TF_nil ?_
        refine thenS_normal ?_
        refine T_seq ?_
        rcases Classical.em (mineA s m) with hm | hm <;> rcases Classical.em (nackA s m) with hn | hn
        · refine T_region ?_
          refine TL_y rfl rfl (Y_move rfl) ?_
          refine TL_name 26 (v' := .bool true) rfl (congrArg Value.bool (decide_eq_true hm)) ?_
          refine TL_y rfl rfl (Y_not_t rfl) ?_
          refine TL_y rfl rfl (Y_move rfl) ?_
          refine TL_grun rfl rfl ?_
          refine TL_y rfl rfl (Y_field_addr rfl) ?_
          refine TL_grun rfl rfl ?_
          refine TL_y rfl rfl (Y_load rfl rfl) ?_
          refine TL_grun rfl rfl ?_
          refine TL_y rfl rfl (Y_eq rfl rfl) ?_
          refine TL_name 31 (v' := .bool true) rfl (congrArg Value.bool (decide_eq_true ((rep_kind hm).2 hn))) ?_
          refine TL_y rfl rfl (Y_pick_f rfl rfl) ?_
          refine TL_nil ?_
          refine T_cond_true rfl ?_
          refine T_region ?_
          refine TL_y rfl rfl (Y_assign rfl) ?_
          refine TL_nil ?_
          refine T_ret ?_
          refine thenS_ret ?_
          rw [show (replE s x : Int) = 10 by unfold replE; rw [hd]; exact if_neg (fun h => h.2 hn), show replS s x = s by unfold replS; rw [hd]; exact stA_same (fun h => h.2 hn)]
          exact RetG_1 (.inl rfl) rfl (ResV.tmp rfl) GivesTo.g (⟨rfl, rfl⟩)
        · refine T_region ?_
          refine TL_y rfl rfl (Y_move rfl) ?_
          refine TL_name 26 (v' := .bool true) rfl (congrArg Value.bool (decide_eq_true hm)) ?_
          refine TL_y rfl rfl (Y_not_t rfl) ?_
          refine TL_y rfl rfl (Y_move rfl) ?_
          refine TL_grun rfl rfl ?_
          refine TL_y rfl rfl (Y_field_addr rfl) ?_
          refine TL_grun rfl rfl ?_
          refine TL_y rfl rfl (Y_load rfl rfl) ?_
          refine TL_grun rfl rfl ?_
          refine TL_y rfl rfl (Y_eq rfl rfl) ?_
          refine TL_name 31 (v' := .bool false) rfl (congrArg Value.bool (decide_eq_false (fun h => hn ((rep_kind hm).1 h)))) ?_
          refine TL_y rfl rfl (Y_pick_f rfl rfl) ?_
          refine TL_nil ?_
          refine T_cond_false rfl ?_
          refine T_skip ?_
          refine thenS_normal ?_
          refine T_region ?_
          refine TL_y rfl rfl (Y_move rfl) ?_
          refine TL_y rfl rfl (Y_load_agg rfl rfl) ?_
          refine TL_pullk b ?_
          refine TL_call rfl rfl (refOn16_spec hi m p hok ⟨slk, slk, slk, slk⟩) ?_
          rintro _ _ ⟨q35, rfl, rfl⟩
          refine TL_nil ?_
          refine T_region ?_
          refine TL_y rfl rfl (Y_assign rfl) ?_
          refine TL_nil ?_
          refine T_ret ?_
          rw [show (replE s x : Int) = 0 by unfold replE; rw [hd]; exact if_pos ⟨hm, hn⟩, show replS s x = stA s m by unfold replS; rw [hd]]
          exact RetG_1 (.inl rfl) rfl (ResV.tmp rfl) GivesTo.g (⟨rfl, rfl⟩)
        · refine T_region ?_
          refine TL_y rfl rfl (Y_move rfl) ?_
          refine TL_name 26 (v' := .bool false) rfl (congrArg Value.bool (decide_eq_false hm)) ?_
          refine TL_y rfl rfl (Y_not_f rfl) ?_
          refine TL_y rfl rfl (Y_move rfl) ?_
          refine TL_gskip rfl rfl rfl rfl ?_
          refine TL_gskip rfl rfl rfl rfl ?_
          refine TL_gskip rfl rfl rfl rfl ?_
          refine TL_y rfl rfl (Y_pick_t rfl rfl) ?_
          refine TL_nil ?_
          refine T_cond_true rfl ?_
          refine T_region ?_
          refine TL_y rfl rfl (Y_assign rfl) ?_
          refine TL_nil ?_
          refine T_ret ?_
          refine thenS_ret ?_
          rw [show (replE s x : Int) = 10 by unfold replE; rw [hd]; exact if_neg (fun h => hm h.1), show replS s x = s by unfold replS; rw [hd]; exact stA_same (fun h => hm h.1)]
          exact RetG_1 (.inl rfl) rfl (ResV.tmp rfl) GivesTo.g (⟨rfl, rfl⟩)
        · refine T_region ?_
          refine TL_y rfl rfl (Y_move rfl) ?_
          refine TL_name 26 (v' := .bool false) rfl (congrArg Value.bool (decide_eq_false hm)) ?_
          refine TL_y rfl rfl (Y_not_f rfl) ?_
          refine TL_y rfl rfl (Y_move rfl) ?_
          refine TL_gskip rfl rfl rfl rfl ?_
          refine TL_gskip rfl rfl rfl rfl ?_
          refine TL_gskip rfl rfl rfl rfl ?_
          refine TL_y rfl rfl (Y_pick_t rfl rfl) ?_
          refine TL_nil ?_
          refine T_cond_true rfl ?_
          refine T_region ?_
          refine TL_y rfl rfl (Y_assign rfl) ?_
          refine TL_nil ?_
          refine T_ret ?_
          refine thenS_ret ?_
          rw [show (replE s x : Int) = 10 by unfold replE; rw [hd]; exact if_neg (fun h => hm h.1), show replS s x = s by unfold replS; rw [hd]; exact stA_same (fun h => hm h.1)]
          exact RetG_1 (.inl rfl) rfl (ResV.tmp rfl) GivesTo.g (⟨rfl, rfl⟩)
    · refine RD_leaf (cells b5 (msgC m p) 49 :: []) [0, 257, 0, 263, 271, 287, 287, 287, 0, 319, 895, 2047] [] [(0, true), (2, true), (8, false), (1, false), (3, false), (4, true), (5, true), (6, true), (7, true), (9, false), (10, true), (11, true)] (by decide +kernel) GivesTo.g ?_
      refine TF_y rfl rfl (Y_move rfl) ?_
      refine TF_y rfl rfl (Y_load_agg rfl rfl) ?_
      refine TF_anchor rfl ?_
      refine TL_alloc rfl rfl ?_
      intro b7
      refine TF_end GivesTo.g ?_
      refine TF_anchor rfl ?_
      refine TL_pullk b ?_
      refine TL_call rfl rfl (refFork16_spec hi) ?_
      rintro _ _ ⟨b20, rfl, rfl⟩
      refine TF_end GivesTo.g ?_
      refine TF_anchor rfl ?_
      refine TL_pullk b20 ?_
      refine TL_call rfl rfl (refOn16_spec hi m p hok ⟨slk, slk, slk, slk⟩) ?_
      rintro _ _ ⟨q22, rfl, rfl⟩
      refine TF_end GivesTo.g ?_
      refine TF_y rfl rfl (Y_move rfl) ?_
      refine TF_y rfl rfl (Y_extract rfl rfl) ?_
      refine TF_y rfl rfl (Y_extract rfl rfl) ?_
      refine TF_y rfl rfl (Y_extract rfl rfl) ?_
      refine TF_anchor rfl ?_
      refine TL_store rfl rfl rfl rfl rfl rfl ?_
      refine TF_end GivesTo.g ?_
      refine TF_y rfl rfl (Y_assign rfl) ?_
      refine TF_y rfl rfl (Y_assign rfl) ?_
      refine TF_nil ?_
      refine thenS_normal ?_
      refine T_seq ?_
      rcases Classical.em (mineA s m) with hm | hm <;> rcases Classical.em (nackA s m) with hn | hn
      · refine T_region ?_
        refine TL_y rfl rfl (Y_move rfl) ?_
        refine TL_name 26 (v' := .bool true) rfl (congrArg Value.bool (decide_eq_true hm)) ?_
        refine TL_y rfl rfl (Y_not_t rfl) ?_
        refine TL_y rfl rfl (Y_move rfl) ?_
        refine TL_grun rfl rfl ?_
        refine TL_y rfl rfl (Y_field_addr rfl) ?_
        refine TL_grun rfl rfl ?_
        refine TL_y rfl rfl (Y_load rfl rfl) ?_
        refine TL_grun rfl rfl ?_
        refine TL_y rfl rfl (Y_eq rfl rfl) ?_
        refine TL_name 31 (v' := .bool true) rfl (congrArg Value.bool (decide_eq_true ((rep_kind hm).2 hn))) ?_
        refine TL_y rfl rfl (Y_pick_f rfl rfl) ?_
        refine TL_nil ?_
        refine T_cond_true rfl ?_
        refine T_region ?_
        refine TL_y rfl rfl (Y_assign rfl) ?_
        refine TL_nil ?_
        refine T_ret ?_
        refine thenS_ret ?_
        rw [show (replE s x : Int) = 10 by unfold replE; rw [hd]; exact if_neg (fun h => h.2 hn), show replS s x = s by unfold replS; rw [hd]; exact stA_same (fun h => h.2 hn)]
        exact RetG_1 (.inl rfl) rfl (ResV.tmp rfl) GivesTo.g (⟨rfl, rfl⟩)
      · refine T_region ?_
        refine TL_y rfl rfl (Y_move rfl) ?_
        refine TL_name 26 (v' := .bool true) rfl (congrArg Value.bool (decide_eq_true hm)) ?_
        refine TL_y rfl rfl (Y_not_t rfl) ?_
        refine TL_y rfl rfl (Y_move rfl) ?_
        refine TL_grun rfl rfl ?_
        refine TL_y rfl rfl (Y_field_addr rfl) ?_
        refine TL_grun rfl rfl ?_
        refine TL_y rfl rfl (Y_load rfl rfl) ?_
        refine TL_grun rfl rfl ?_
        refine TL_y rfl rfl (Y_eq rfl rfl) ?_
        refine TL_name 31 (v' := .bool false) rfl (congrArg Value.bool (decide_eq_false (fun h => hn ((rep_kind hm).1 h)))) ?_
        refine TL_y rfl rfl (Y_pick_f rfl rfl) ?_
        refine TL_nil ?_
        refine T_cond_false rfl ?_
        refine T_skip ?_
        refine thenS_normal ?_
        refine T_region ?_
        refine TL_y rfl rfl (Y_move rfl) ?_
        refine TL_y rfl rfl (Y_load_agg rfl rfl) ?_
        refine TL_pullk b ?_
        refine TL_call rfl rfl (refOn16_spec hi m p hok ⟨slk, slk, slk, slk⟩) ?_
        rintro _ _ ⟨q35, rfl, rfl⟩
        refine TL_nil ?_
        refine T_region ?_
        refine TL_y rfl rfl (Y_assign rfl) ?_
        refine TL_nil ?_
        refine T_ret ?_
        rw [show (replE s x : Int) = 0 by unfold replE; rw [hd]; exact if_pos ⟨hm, hn⟩, show replS s x = stA s m by unfold replS; rw [hd]]
        exact RetG_1 (.inl rfl) rfl (ResV.tmp rfl) GivesTo.g (⟨rfl, rfl⟩)
      · refine T_region ?_
        refine TL_y rfl rfl (Y_move rfl) ?_
        refine TL_name 26 (v' := .bool false) rfl (congrArg Value.bool (decide_eq_false hm)) ?_
        refine TL_y rfl rfl (Y_not_f rfl) ?_
        refine TL_y rfl rfl (Y_move rfl) ?_
        refine TL_gskip rfl rfl rfl rfl ?_
        refine TL_gskip rfl rfl rfl rfl ?_
        refine TL_gskip rfl rfl rfl rfl ?_
        refine TL_y rfl rfl (Y_pick_t rfl rfl) ?_
        refine TL_nil ?_
        refine T_cond_true rfl ?_
        refine T_region ?_
        refine TL_y rfl rfl (Y_assign rfl) ?_
        refine TL_nil ?_
        refine T_ret ?_
        refine thenS_ret ?_
        rw [show (replE s x : Int) = 10 by unfold replE; rw [hd]; exact if_neg (fun h => hm h.1), show replS s x = s by unfold replS; rw [hd]; exact stA_same (fun h => hm h.1)]
        exact RetG_1 (.inl rfl) rfl (ResV.tmp rfl) GivesTo.g (⟨rfl, rfl⟩)
      · refine T_region ?_
        refine TL_y rfl rfl (Y_move rfl) ?_
        refine TL_name 26 (v' := .bool false) rfl (congrArg Value.bool (decide_eq_false hm)) ?_
        refine TL_y rfl rfl (Y_not_f rfl) ?_
        refine TL_y rfl rfl (Y_move rfl) ?_
        refine TL_gskip rfl rfl rfl rfl ?_
        refine TL_gskip rfl rfl rfl rfl ?_
        refine TL_gskip rfl rfl rfl rfl ?_
        refine TL_y rfl rfl (Y_pick_t rfl rfl) ?_
        refine TL_nil ?_
        refine T_cond_true rfl ?_
        refine T_region ?_
        refine TL_y rfl rfl (Y_assign rfl) ?_
        refine TL_nil ?_
        refine T_ret ?_
        refine thenS_ret ?_
        rw [show (replE s x : Int) = 10 by unfold replE; rw [hd]; exact if_neg (fun h => hm h.1), show replS s x = s by unfold replS; rw [hd]; exact stA_same (fun h => hm h.1)]
        exact RetG_1 (.inl rfl) rfl (ResV.tmp rfl) GivesTo.g (⟨rfl, rfl⟩)
  · refine T_region ?_
    refine TL_y rfl rfl (Y_move rfl) ?_
    refine TL_y rfl rfl (Y_ne rfl rfl) ?_
    refine TL_name 17 (v' := .bool true) rfl (congrArg Value.bool (decide_eq_true (by decide))) ?_
    refine TL_nil ?_
    refine T_cond_true rfl ?_
    refine T_region ?_
    refine TL_y rfl rfl (Y_assign rfl) ?_
    refine TL_nil ?_
    refine T_ret ?_
    refine thenS_ret ?_
    rw [show (replE s x : Int) = 10 by unfold replE; rw [hd], show replS s x = s by unfold replS; rw [hd]]
    exact RetG_1 (.inl rfl) rfl (ResV.tmp rfl) GivesTo.g (⟨rfl, rfl⟩)
structure RpSt where
  i : Nat
  s : AccD
theorem acReplays_bad {L : List HP} {A : Option Addr} {c : Nat} {l : List ByteArray} (n : Int) (h : ¬ (0 ≤ n ∧ n ≤ 6)) : Fn Tryz.prog 3 #[.int .i64 n, .slice A l.length c] L (fun v L' => v = .bool true ∧ L' = L) := by
  refine Fn_enter Tryz.func3 rfl rfl rfl rfl ?_
  refine T_gives (Gives.pure_intro trivial) ?_
  refine T_region ?_
  refine TL_y rfl rfl (Y_assign rfl) ?_
  refine TL_nil ?_
  refine T_region ?_
  refine TL_y rfl rfl (Y_move rfl) ?_
  refine TL_call rfl rfl (acNew_bad n h _) ?_
  rintro _ _ ⟨rfl, rfl⟩
  refine TL_y rfl rfl (Y_move rfl) ?_
  refine TL_y rfl rfl (Y_extract rfl rfl) ?_
  refine TL_y rfl rfl (Y_extract rfl rfl) ?_
  refine TL_y rfl rfl (Y_assign rfl) ?_
  refine TL_y rfl rfl (Y_assign rfl) ?_
  refine TL_nil ?_
  refine T_region ?_
  refine TL_y rfl rfl (Y_move rfl) ?_
  refine TL_call rfl rfl (refAcNew_bad n h _) ?_
  rintro _ _ ⟨rfl, rfl⟩
  refine TL_y rfl rfl (Y_move rfl) ?_
  refine TL_y rfl rfl (Y_extract rfl rfl) ?_
  refine TL_y rfl rfl (Y_extract rfl rfl) ?_
  refine TL_y rfl rfl (Y_assign rfl) ?_
  refine TL_y rfl rfl (Y_assign rfl) ?_
  refine TL_nil ?_
  refine T_seq ?_
  refine T_region ?_
  refine TL_call rfl rfl (lives16_spec _) ?_
  rintro _ _ ⟨rfl, rfl⟩
  refine TL_name 20 (v' := .bool true) rfl (rfl) ?_
  refine TL_y rfl rfl (Y_not_t rfl) ?_
  refine TL_y rfl rfl (Y_move rfl) ?_
  refine TL_grun rfl rfl ?_
  refine TL_y rfl rfl (Y_move rfl) ?_
  refine TL_grun rfl rfl ?_
  refine TL_y rfl rfl (Y_move rfl) ?_
  refine TL_grun rfl rfl ?_
  refine TL_y rfl rfl (Y_ne rfl rfl) ?_
  refine TL_name 25 (v' := .bool false) rfl (congrArg Value.bool (by decide)) ?_
  refine TL_y rfl rfl (Y_pick_f rfl rfl) ?_
  refine TL_y rfl rfl (Y_move rfl) ?_
  refine TL_grun rfl rfl ?_
  refine TL_y rfl rfl (Y_move rfl) ?_
  refine TL_grun rfl rfl ?_
  refine TL_y rfl rfl (Y_equal rfl rfl (EqIs.ptr_nil)) ?_
  refine TL_name 29 (v' := .bool true) rfl (by simp) ?_
  refine TL_grun rfl rfl ?_
  refine TL_y rfl rfl (Y_move rfl) ?_
  refine TL_grun rfl rfl ?_
  refine TL_y rfl rfl (Y_equal rfl rfl (EqIs.ptr_nil)) ?_
  refine TL_name 31 (v' := .bool true) rfl (by simp) ?_
  refine TL_grun rfl rfl ?_
  refine TL_y rfl rfl (Y_unequal rfl rfl (EqIs.bool)) ?_
  refine TL_name 32 (v' := .bool false) rfl (rfl) ?_
  refine TL_y rfl rfl (Y_pick_f rfl rfl) ?_
  refine TL_nil ?_
  refine T_cond_false rfl ?_
  refine T_skip ?_
  refine thenS_normal ?_
  refine T_seq ?_
  refine T_region ?_
  refine TL_y rfl rfl (Y_assign rfl) ?_
  refine TL_nil ?_
  refine T_block ?_
  refine T_loopK (σ := Unit) [1, 5, 7] (fun u => True) (fun u kv => (9, .int .i64 0) :: kv) (fun u => L) (fun u => 0) (()) rfl (trivial) (GivesTo.g) (sub_cons rfl (sub_cons rfl (sub_cons rfl (sub_cons rfl (sub_nil))))) ?_
  intro u _
  refine T_seq ?_
  refine T_region ?_
  refine TL_y rfl rfl (Y_move rfl) ?_
  refine TL_y rfl rfl (Y_move rfl) ?_
  refine TL_y rfl rfl (Y_len rfl) ?_
  refine TL_y rfl rfl (Y_lt rfl rfl) ?_
  refine TL_y rfl rfl (Y_move rfl) ?_
  refine TL_splitd 38 rfl (fun h38 => ?_) (fun h38 => ?_)
  · refine TL_grun rfl rfl ?_
    refine TL_y rfl rfl (Y_move rfl) ?_
    refine TL_grun rfl rfl ?_
    refine TL_y rfl rfl (Y_unequal rfl rfl (EqIs.ptr_nil)) ?_
    refine TL_name 40 (v' := .bool false) rfl (by simp) ?_
    refine TL_y rfl rfl (Y_pick_t rfl rfl) ?_
    refine TL_nil ?_
    refine T_cond_false rfl ?_
    refine T_exit ?_
    refine thenS_exit ?_
    refine thenS_exit ?_
    refine inB_hit ?_
    refine thenS_normal ?_
    refine T_region ?_
    refine TL_y rfl rfl (Y_assign rfl) ?_
    refine TL_nil ?_
    refine T_ret ?_
    exact RetG_1 (.inl rfl) rfl (ResV.tmp rfl) GivesTo.g (⟨rfl, rfl⟩)
  · refine TL_gskip rfl rfl rfl rfl ?_
    refine TL_gskip rfl rfl rfl rfl ?_
    refine TL_y rfl rfl (Y_pick_f rfl rfl) ?_
    refine TL_nil ?_
    refine T_cond_false rfl ?_
    refine T_exit ?_
    refine thenS_exit ?_
    refine thenS_exit ?_
    refine inB_hit ?_
    refine thenS_normal ?_
    refine T_region ?_
    refine TL_y rfl rfl (Y_assign rfl) ?_
    refine TL_nil ?_
    refine T_ret ?_
    exact RetG_1 (.inl rfl) rfl (ResV.tmp rfl) GivesTo.g (⟨rfl, rfl⟩)
theorem acReplays_good {L : List HP} {A : Option Addr} {c : Nat} {l : List ByteArray} (n : Int) (h : 0 ≤ n ∧ n ≤ 6) (hk : SlK L strR A c l) (hb : ∀ x ∈ l, x.size ≤ 140737488355328) : Fn Tryz.prog 3 #[.int .i64 n, .slice A l.length c] L (fun v L' => v = .bool true ∧ L' = L) := by
  refine Fn_enter Tryz.func3 rfl rfl rfl rfl ?_
  refine T_gives hk.lay ?_
  refine SlN.lens (sln (A := A) (c := c) (R := strR) (xs := l)) fun hl => ?_
  simp only [maxEl] at hl
  refine T_region ?_
  refine TL_y rfl rfl (Y_assign rfl) ?_
  refine TL_nil ?_
  refine T_region ?_
  refine TL_y rfl rfl (Y_move rfl) ?_
  refine TL_call rfl rfl (acNew_ok n h _) ?_
  rintro _ _ ⟨b0, rfl, rfl⟩
  refine TL_y rfl rfl (Y_move rfl) ?_
  refine TL_y rfl rfl (Y_extract rfl rfl) ?_
  refine TL_y rfl rfl (Y_extract rfl rfl) ?_
  refine TL_y rfl rfl (Y_assign rfl) ?_
  refine TL_y rfl rfl (Y_assign rfl) ?_
  refine TL_nil ?_
  refine T_region ?_
  refine TL_y rfl rfl (Y_move rfl) ?_
  refine TL_call rfl rfl (refAcNew_ok n h _) ?_
  rintro _ _ ⟨bx, rfl, rfl⟩
  refine TL_y rfl rfl (Y_move rfl) ?_
  refine TL_y rfl rfl (Y_extract rfl rfl) ?_
  refine TL_y rfl rfl (Y_extract rfl rfl) ?_
  refine TL_y rfl rfl (Y_assign rfl) ?_
  refine TL_y rfl rfl (Y_assign rfl) ?_
  refine TL_nil ?_
  refine T_seq ?_
  refine T_region ?_
  refine TL_call rfl rfl (lives16_spec _) ?_
  rintro _ _ ⟨rfl, rfl⟩
  refine TL_name 20 (v' := .bool true) rfl (rfl) ?_
  refine TL_y rfl rfl (Y_not_t rfl) ?_
  refine TL_y rfl rfl (Y_move rfl) ?_
  refine TL_grun rfl rfl ?_
  refine TL_y rfl rfl (Y_move rfl) ?_
  refine TL_grun rfl rfl ?_
  refine TL_y rfl rfl (Y_move rfl) ?_
  refine TL_grun rfl rfl ?_
  refine TL_y rfl rfl (Y_ne rfl rfl) ?_
  refine TL_name 25 (v' := .bool false) rfl (congrArg Value.bool (by decide)) ?_
  refine TL_y rfl rfl (Y_pick_f rfl rfl) ?_
  refine TL_y rfl rfl (Y_move rfl) ?_
  refine TL_grun rfl rfl ?_
  refine TL_y rfl rfl (Y_move rfl) ?_
  refine TL_grun rfl rfl ?_
  refine TL_y rfl rfl (Y_equal rfl rfl (EqIs.ptr_nil)) ?_
  refine TL_name 29 (v' := .bool false) rfl (by simp) ?_
  refine TL_grun rfl rfl ?_
  refine TL_y rfl rfl (Y_move rfl) ?_
  refine TL_grun rfl rfl ?_
  refine TL_y rfl rfl (Y_equal rfl rfl (EqIs.ptr_nil)) ?_
  refine TL_name 31 (v' := .bool false) rfl (by simp) ?_
  refine TL_grun rfl rfl ?_
  refine TL_y rfl rfl (Y_unequal rfl rfl (EqIs.bool)) ?_
  refine TL_name 32 (v' := .bool false) rfl (rfl) ?_
  refine TL_y rfl rfl (Y_pick_f rfl rfl) ?_
  refine TL_nil ?_
  refine T_cond_false rfl ?_
  refine T_skip ?_
  refine thenS_normal ?_
  refine T_seq ?_
  refine T_region ?_
  refine TL_y rfl rfl (Y_assign rfl) ?_
  refine TL_nil ?_
  refine T_block ?_
  refine T_loopK (σ := RpSt) [1, 5, 7] (fun g => g.i ≤ l.length) (fun g kv => (9, .int .i64 (g.i : Int)) :: kv) (fun g => ac b0 g.s :: ra bx g.s :: sl strR A c l :: L) (fun g => l.length - g.i) (⟨0, acNew n⟩) rfl (Nat.zero_le _) ((show Gives _ (ac b0 (acNew n) :: ra bx (acNew n) :: sl strR A c l :: L) from GivesTo.g)) (sub_cons rfl (sub_cons rfl (sub_cons rfl (sub_cons rfl (sub_nil))))) ?_
  rintro ⟨i, s⟩ hil
  dsimp only at hil ⊢
  refine T_seq ?_
  refine T_region ?_
  refine TL_y rfl rfl (Y_move rfl) ?_
  refine TL_y rfl rfl (Y_move rfl) ?_
  refine TL_y rfl rfl (Y_len rfl) ?_
  refine TL_y rfl rfl (Y_lt rfl rfl) ?_
  refine TL_y rfl rfl (Y_move rfl) ?_
  refine TL_splitd 38 rfl (fun h38 => ?_) (fun h38 => ?_)
  · refine TL_grun rfl rfl ?_
    refine TL_y rfl rfl (Y_move rfl) ?_
    refine TL_grun rfl rfl ?_
    refine TL_y rfl rfl (Y_unequal rfl rfl (EqIs.ptr_nil)) ?_
    refine TL_name 40 (v' := .bool true) rfl (by simp) ?_
    refine TL_y rfl rfl (Y_pick_t rfl rfl) ?_
    refine TL_nil ?_
    refine T_cond_true rfl ?_
    refine T_skip ?_
    refine thenS_normal ?_
    refine T_seq ?_
    refine T_block ?_
    obtain ⟨x, hx⟩ : ∃ x, l[i]? = some x := ⟨_, List.getElem?_eq_getElem (by omega)⟩
    have hxb := hb x (List.mem_of_getElem? hx)
    refine T_acI fun hi => ?_
    refine T_addr_n (sln (A := A) (c := c) (R := strR) (xs := l)) hx fun bq oq eq => ?_
    subst eq
    refine T_region_draw (sl strR (some ⟨bq, oq, none⟩) c l :: []) [0, 0, 0, 6, 14, 31, 0, 0, 0, 384, 896, 2047, 4095, 8191, 16383, 16383, 65535, 131071, 262143] [] [(0, true), (1, true), (2, true), (3, true), (4, true), (6, true), (7, true), (8, true), (9, true), (10, true), (5, false), (11, false), (12, true), (13, true), (14, true), (15, true), (16, false), (17, true), (18, true)] (by kernel_rfl) (by decide +kernel) GivesTo.g ?_
    refine TF_y rfl rfl (Y_move rfl) ?_
    refine TF_y rfl rfl (Y_move rfl) ?_
    refine TF_y rfl rfl (Y_move rfl) ?_
    refine TF_y rfl rfl (Y_index_n (R := strR) (xs := l) rfl rfl rfl hx) ?_
    refine TF_y rfl rfl (Y_load_n (R := strR) (c := c) (xs := l) (q := 0) rfl sln hx rfl) ?_
    refine TF_y rfl rfl (Y_move rfl) ?_
    refine TF_y rfl rfl (Y_move rfl) ?_
    refine TF_y rfl rfl (Y_move rfl) ?_
    refine TF_y rfl rfl (Y_index_n (R := strR) (xs := l) rfl rfl rfl hx) ?_
    refine TF_y rfl rfl (Y_load_n (R := strR) (c := c) (xs := l) (q := 0) rfl sln hx rfl) ?_
    refine TF_anchor rfl ?_
    refine TL_pullk b0 ?_
    refine TL_call rfl rfl (acReplay_spec x hxb) ?_
    rintro _ _ ⟨rfl, rfl⟩
    refine TF_end GivesTo.g ?_
    refine TF_anchor rfl ?_
    refine TL_pullk bx ?_
    refine TL_call rfl rfl (refReplay_spec hi x hxb) ?_
    rintro _ _ ⟨rfl, rfl⟩
    refine TF_end GivesTo.g ?_
    refine TF_y rfl rfl (Y_ne rfl rfl) ?_
    refine TF_name 56 (v' := .bool false) rfl (congrArg Value.bool (by simp)) ?_
    refine TF_y rfl rfl (Y_move rfl) ?_
    refine TF_gy rfl rfl rfl rfl (Y_move rfl) ?_
    refine TF_gy rfl rfl rfl rfl (Y_move rfl) ?_
    refine TF_anchor rfl ?_
    refine TL_grun rfl rfl ?_
    refine TL_gives (show Gives _ (ac b0 (replS s x) :: ra bx (replS s x) :: sl strR (some ⟨bq, oq, none⟩) c l :: L) from GivesTo.g) ?_
    refine TL_call rfl rfl (same16_spec) ?_
    rintro _ _ ⟨rfl, rfl⟩
    refine TF_end GivesTo.g ?_
    refine TF_gy rfl rfl rfl rfl (Y_not rfl) ?_
    refine TF_name 61 (v' := .bool false) rfl (rfl) ?_
    refine TF_y rfl rfl (Y_pick_f rfl rfl) ?_
    refine TF_nil ?_
    refine T_cond_false rfl ?_
    refine T_skip ?_
    refine inB_normal ?_
    refine thenS_normal ?_
    refine T_region_last ?_
    refine TL_y rfl rfl (Y_move rfl) ?_
    refine TL_name 42 (v' := .int .i64 (i : Int)) rfl (rfl) ?_
    refine TL_y rfl rfl (Y_add rfl rfl (by omega)) ?_
    refine TL_name 43 (v' := .int .i64 ((i + 1 : Nat) : Int)) rfl (rfl) ?_
    refine TL_y rfl rfl (Y_assign rfl) ?_
    refine TL_nil ?_
    refine thenS_normal ?_
    exact ⟨⟨i + 1, replS s x⟩, (by simp only; omega), by simp only; omega, holds_to (sub_cons rfl (sub_cons rfl (sub_cons rfl (sub_cons rfl (sub_nil))))) GivesTo.g⟩
  · refine TL_gskip rfl rfl rfl rfl ?_
    refine TL_gskip rfl rfl rfl rfl ?_
    refine TL_y rfl rfl (Y_pick_f rfl rfl) ?_
    refine TL_nil ?_
    refine T_cond_false rfl ?_
    refine T_exit ?_
    refine thenS_exit ?_
    refine thenS_exit ?_
    refine inB_hit ?_
    refine thenS_normal ?_
    refine T_region ?_
    refine TL_y rfl rfl (Y_assign rfl) ?_
    refine TL_nil ?_
    refine T_ret ?_
    exact RetG_1 (.inl rfl) rfl (ResV.tmp rfl) GivesTo.g (⟨rfl, rfl⟩)
theorem acReplays_walk {L : List HP} {A : Option Addr} {c : Nat} {l : List ByteArray} (n : Int) (hk : SlK L strR A c l) (hb : ∀ x ∈ l, x.size ≤ 140737488355328) : Fn Tryz.prog 3 #[.int .i64 n, .slice A l.length c] L (fun v L' => v = .bool true ∧ L' = L) := by
  by_cases h : 0 ≤ n ∧ n ≤ 6
  · exact acReplays_good n h hk hb
  · exact acReplays_bad n h
end Go.SL
