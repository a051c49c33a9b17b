/- Net: nobody's net. -/
import Derived.Test.YtcpknfcckekhdaaNetG
import Derived.Test.YtcpknfcckekhdaaNetF
set_option linter.unusedVariables false
set_option linter.unusedSimpArgs false
namespace Go.SL
open Go Go.Proofs
theorem netSend_nil (L : List HP) (f t : Int) (body : ByteArray) : Fn Try.prog 39 #[.pointer none, .int .i64 f, .int .i64 t, .string body] L (fun v L' => v = .tuple #[.int .i64 0, .int .i64 6] ∧ L' = L) := by
  refine Fn_enter Try.func39 rfl rfl rfl rfl ?_
  refine T_region ?_
  refine TL_y rfl rfl (Y_assign rfl) ?_
  refine TL_y rfl rfl (Y_assign rfl) ?_
  refine TL_nil ?_
  refine T_seq ?_
  refine T_block ?_
  refine T_region ?_
  refine TL_y rfl rfl (Y_move rfl) ?_
  refine TL_call rfl rfl (netMade_nil _) ?_
  rintro _ _ ⟨rfl, rfl⟩
  refine TL_name 12 (v' := .bool false) rfl (rfl) ?_
  refine TL_y rfl rfl (Y_not_f rfl) ?_
  refine TL_y rfl rfl (Y_assign rfl) ?_
  refine TL_nil ?_
  refine T_cond_true rfl ?_
  refine T_region ?_
  refine TL_y rfl rfl (Y_assign rfl) ?_
  refine TL_y rfl rfl (Y_assign rfl) ?_
  refine TL_nil ?_
  refine T_ret ?_
  refine inB_ret ?_
  refine thenS_ret ?_
  exact RetG_2 (.inl rfl) rfl (ResV.tmp rfl) (ResV.tmp rfl) GivesTo.g (⟨rfl, rfl⟩)
theorem netFind_nil (L : List HP) (k : Int) : Fn Try.prog 78 #[.pointer none, .int .i64 k] L (fun v L' => v = .tuple #[packV pack0, .int .i64 6] ∧ L' = L) := by
  refine Fn_enter Try.func78 rfl rfl rfl rfl ?_
  refine T_region ?_
  refine TL_alloc rfl rfl ?_
  intro b4
  refine TL_y rfl rfl (Y_assign rfl) ?_
  refine TL_nil ?_
  refine T_seq ?_
  refine T_region ?_
  refine TL_y rfl rfl (Y_move rfl) ?_
  refine TL_call rfl rfl (netMade_nil _) ?_
  rintro _ _ ⟨rfl, rfl⟩
  refine TL_name 9 (v' := .bool false) rfl (rfl) ?_
  refine TL_y rfl rfl (Y_not_f rfl) ?_
  refine TL_nil ?_
  refine T_cond_true rfl ?_
  refine T_region ?_
  refine TL_y rfl rfl (Y_build rfl rfl) ?_
  refine TL_store rfl rfl rfl rfl rfl rfl ?_
  refine TL_y rfl rfl (Y_assign rfl) ?_
  refine TL_nil ?_
  refine T_ret ?_
  refine thenS_ret ?_
  exact RetG_2 (.inl rfl) rfl (ResV.agg rfl rfl) (ResV.tmp rfl) GivesTo.g (⟨rfl, rfl⟩)
theorem netTake_nil (L : List HP) (k : Int) : Fn Try.prog 40 #[.pointer none, .int .i64 k] L (fun v L' => v = .tuple #[packV pack0, .int .i64 6] ∧ L' = L) := by
  refine Fn_enter Try.func40 rfl rfl rfl rfl ?_
  refine T_region ?_
  refine TL_alloc rfl rfl ?_
  intro b4
  refine TL_y rfl rfl (Y_assign rfl) ?_
  refine TL_nil ?_
  refine T_region ?_
  refine TL_y rfl rfl (Y_move rfl) ?_
  refine TL_y rfl rfl (Y_move rfl) ?_
  refine TL_call rfl rfl (netFind_nil _ k) ?_
  rintro _ _ ⟨rfl, rfl⟩
  refine TL_y rfl rfl (Y_move rfl) ?_
  refine TL_y rfl rfl (Y_extract rfl rfl) ?_
  refine TL_y rfl rfl (Y_extract rfl rfl) ?_
  refine TL_alloc rfl rfl ?_
  intro b6
  refine TL_store rfl rfl rfl rfl rfl rfl ?_
  refine TL_y rfl rfl (Y_assign rfl) ?_
  refine TL_nil ?_
  refine T_seq ?_
  refine T_region ?_
  refine TL_y rfl rfl (Y_move rfl) ?_
  refine TL_y rfl rfl (Y_eq rfl rfl) ?_
  refine TL_name 15 (v' := .bool false) rfl (congrArg Value.bool (by decide)) ?_
  refine TL_nil ?_
  refine T_cond_false rfl ?_
  refine T_skip ?_
  refine thenS_normal ?_
  refine T_region ?_
  refine TL_y rfl rfl (Y_load_agg rfl rfl) ?_
  refine TL_y rfl rfl (Y_move rfl) ?_
  refine TL_store rfl rfl rfl rfl rfl rfl ?_
  refine TL_y rfl rfl (Y_assign rfl) ?_
  refine TL_nil ?_
  refine T_ret ?_
  exact RetG_2 (.inl rfl) rfl (ResV.agg rfl rfl) (ResV.tmp rfl) GivesTo.g (⟨rfl, rfl⟩)
theorem netTwice_nil (L : List HP) (k : Int) : Fn Try.prog 41 #[.pointer none, .int .i64 k] L (fun v L' => v = .tuple #[.int .i64 0, .int .i64 6] ∧ L' = L) := by
  refine Fn_enter Try.func41 rfl rfl rfl rfl ?_
  refine T_region ?_
  refine TL_y rfl rfl (Y_assign rfl) ?_
  refine TL_y rfl rfl (Y_assign rfl) ?_
  refine TL_nil ?_
  refine T_region ?_
  refine TL_y rfl rfl (Y_move rfl) ?_
  refine TL_y rfl rfl (Y_move rfl) ?_
  refine TL_call rfl rfl (netFind_nil _ k) ?_
  rintro _ _ ⟨rfl, rfl⟩
  refine TL_y rfl rfl (Y_move rfl) ?_
  refine TL_y rfl rfl (Y_extract rfl rfl) ?_
  refine TL_y rfl rfl (Y_extract rfl rfl) ?_
  refine TL_alloc rfl rfl ?_
  intro b6
  refine TL_store rfl rfl rfl rfl rfl rfl ?_
  refine TL_y rfl rfl (Y_assign rfl) ?_
  refine TL_nil ?_
  refine T_seq ?_
  refine T_region ?_
  refine TL_y rfl rfl (Y_move rfl) ?_
  refine TL_y rfl rfl (Y_ne rfl rfl) ?_
  refine TL_name 15 (v' := .bool true) rfl (congrArg Value.bool (by decide)) ?_
  refine TL_nil ?_
  refine T_cond_true rfl ?_
  refine T_region ?_
  refine TL_y rfl rfl (Y_move rfl) ?_
  refine TL_y rfl rfl (Y_assign rfl) ?_
  refine TL_y rfl rfl (Y_assign rfl) ?_
  refine TL_nil ?_
  refine T_ret ?_
  refine thenS_ret ?_
  exact RetG_2 (.inl rfl) rfl (ResV.tmp rfl) (ResV.tmp rfl) GivesTo.g (⟨rfl, rfl⟩)
theorem netIds_nil (L : List HP) : Fn Try.prog 82 #[.pointer none] L (fun v L' => v = .slice none 0 0 ∧ L' = L) := by
  refine Fn_enter Try.func82 rfl rfl rfl rfl ?_
  refine T_region ?_
  refine TL_y rfl rfl (Y_assign rfl) ?_
  refine TL_nil ?_
  refine T_seq ?_
  refine T_region ?_
  refine TL_y rfl rfl (Y_move rfl) ?_
  refine TL_call rfl rfl (netMade_nil _) ?_
  rintro _ _ ⟨rfl, rfl⟩
  refine TL_name 4 (v' := .bool false) rfl (rfl) ?_
  refine TL_y rfl rfl (Y_not_f rfl) ?_
  refine TL_nil ?_
  refine T_cond_true rfl ?_
  refine T_region ?_
  refine TL_y rfl rfl (Y_assign rfl) ?_
  refine TL_nil ?_
  refine T_ret ?_
  refine thenS_ret ?_
  exact RetG_1 (.inl rfl) rfl (ResV.tmp rfl) GivesTo.g (⟨rfl, rfl⟩)
theorem netAt_nil (L : List HP) (k : Int) : Fn Try.prog 43 #[.pointer none, .int .i64 k] L (fun v L' => v = .tuple #[.int .i64 0, .bool false] ∧ L' = L) := by
  refine Fn_enter Try.func43 rfl rfl rfl rfl ?_
  refine T_region ?_
  refine TL_y rfl rfl (Y_assign rfl) ?_
  refine TL_y rfl rfl (Y_assign rfl) ?_
  refine TL_nil ?_
  refine T_region ?_
  refine TL_y rfl rfl (Y_move rfl) ?_
  refine TL_call rfl rfl (netIds_nil _) ?_
  rintro _ _ ⟨rfl, rfl⟩
  refine TL_y rfl rfl (Y_assign rfl) ?_
  refine TL_nil ?_
  refine T_seq ?_
  refine T_region ?_
  refine TL_y rfl rfl (Y_move rfl) ?_
  refine TL_y rfl rfl (Y_len rfl) ?_
  refine TL_y rfl rfl (Y_eq rfl rfl) ?_
  refine TL_name 11 (v' := .bool true) rfl (congrArg Value.bool (by decide)) ?_
  refine TL_nil ?_
  refine T_cond_true rfl ?_
  refine T_region ?_
  refine TL_y rfl rfl (Y_assign rfl) ?_
  refine TL_y rfl rfl (Y_assign rfl) ?_
  refine TL_nil ?_
  refine T_ret ?_
  refine thenS_ret ?_
  exact RetG_2 (.inl rfl) rfl (ResV.tmp rfl) (ResV.tmp rfl) GivesTo.g (⟨rfl, rfl⟩)
theorem netLen_nil (L : List HP) : Fn Try.prog 44 #[.pointer none] L (fun v L' => v = .int .i64 0 ∧ L' = L) := by
  refine Fn_enter Try.func44 rfl rfl rfl rfl ?_
  refine T_region ?_
  refine TL_y rfl rfl (Y_assign rfl) ?_
  refine TL_nil ?_
  refine T_seq ?_
  refine T_region ?_
  refine TL_y rfl rfl (Y_move rfl) ?_
  refine TL_call rfl rfl (netMade_nil _) ?_
  rintro _ _ ⟨rfl, rfl⟩
  refine TL_name 4 (v' := .bool false) rfl (rfl) ?_
  refine TL_y rfl rfl (Y_not_f rfl) ?_
  refine TL_nil ?_
  refine T_cond_true rfl ?_
  refine T_region ?_
  refine TL_y rfl rfl (Y_assign rfl) ?_
  refine TL_nil ?_
  refine T_ret ?_
  refine thenS_ret ?_
  exact RetG_1 (.inl rfl) rfl (ResV.tmp rfl) GivesTo.g (⟨rfl, rfl⟩)
theorem netFork_nil (L : List HP) : Fn Try.prog 50 #[.pointer none] L (fun v L' => v = .pointer none ∧ L' = L) := by
  refine Fn_enter Try.func50 rfl rfl rfl rfl ?_
  refine T_region ?_
  refine TL_y rfl rfl (Y_assign rfl) ?_
  refine TL_nil ?_
  refine T_seq ?_
  refine T_region ?_
  refine TL_y rfl rfl (Y_move rfl) ?_
  refine TL_call rfl rfl (netMade_nil _) ?_
  rintro _ _ ⟨rfl, rfl⟩
  refine TL_name 4 (v' := .bool false) rfl (rfl) ?_
  refine TL_y rfl rfl (Y_not_f rfl) ?_
  refine TL_nil ?_
  refine T_cond_true rfl ?_
  refine T_region ?_
  refine TL_y rfl rfl (Y_assign rfl) ?_
  refine TL_nil ?_
  refine T_ret ?_
  refine thenS_ret ?_
  exact RetG_1 (.inl rfl) rfl (ResV.tmp rfl) GivesTo.g (⟨rfl, rfl⟩)
theorem where_nil {L : List HP} {fw : FuncId} {f1 c1 : Array Value} : Fn Try.prog 80 #[.pointer none, .func (.func fw) f1 c1] L (fun v L' => ∃ bn bw, v = .func (.func 107) #[] #[.pointer (some ⟨bn, 0, none⟩), .pointer (some ⟨bw, 0, none⟩)] ∧ L' = cells bn [.pointer none] 59 :: L) := by
  refine Fn_enter Try.func80 rfl rfl rfl rfl ?_
  refine T_region ?_
  refine TL_box rfl rfl rfl ?_
  intro b2
  refine TL_box rfl rfl rfl ?_
  intro b3
  refine TL_y rfl rfl (Y_assign rfl) ?_
  refine TL_nil ?_
  refine T_region ?_
  refine TL_y rfl rfl (Y_make_func rfl rfl) ?_
  refine TL_y rfl rfl (Y_assign rfl) ?_
  refine TL_nil ?_
  refine T_ret ?_
  exact RetG_1 (.inl rfl) rfl (ResV.tmp rfl) GivesTo.g (⟨b2, b3, rfl, rfl⟩)
theorem netTo_nil {L : List HP} (k : Int) : Fn Try.prog 52 #[.pointer none, .int .i64 k] L (fun v L' => ∃ bn bw, v = .func (.func 107) #[] #[.pointer (some ⟨bn, 0, none⟩), .pointer (some ⟨bw, 0, none⟩)] ∧ L' = cells bn [.pointer none] 59 :: L) := by
  refine Fn_enter Try.func52 rfl rfl rfl rfl ?_
  refine T_region ?_
  refine TL_box rfl rfl rfl ?_
  intro b3
  refine TL_y rfl rfl (Y_assign rfl) ?_
  refine TL_nil ?_
  refine T_region ?_
  refine TL_y rfl rfl (Y_move rfl) ?_
  refine TL_y rfl rfl (Y_make_func rfl rfl) ?_
  refine TL_call rfl rfl (where_nil) ?_
  rintro _ _ ⟨bn, bw, rfl, rfl⟩
  refine TL_y rfl rfl (Y_assign rfl) ?_
  refine TL_nil ?_
  refine T_ret ?_
  exact RetG_1 (.inl rfl) rfl (ResV.tmp rfl) GivesTo.g (⟨bn, bw, rfl, rfl⟩)
theorem where1n_spec {l bn bw : Nat} {p0 : HP} {Lx : List HP} : Fn Try.prog 107 #[.func (.yield l) #[] #[], .pointer (some ⟨bn, 0, none⟩), .pointer (some ⟨bw, 0, none⟩)] (con l p0 :: cells bn [.pointer none] 59 :: Lx) (fun v L' => L' = con l p0 :: cells bn [.pointer none] 59 :: Lx) := by
  refine Fn_enter Try.func107 rfl rfl rfl rfl ?_
  refine T_region ?_
  refine TL_y rfl rfl (Y_load rfl rfl) ?_
  refine TL_call rfl rfl (netIds_nil _) ?_
  rintro _ L1 ⟨rfl, hL⟩
  have hL := hL.symm
  subst hL
  refine TL_y rfl rfl (Y_len rfl) ?_
  refine TL_y rfl rfl (Y_move rfl) ?_
  refine TL_nil ?_
  refine T_block ?_
  refine T_loopK (σ := Unit) [0, 1, 2, 8, 9] (fun g => True) (fun g kv => (10, .int .i64 0) :: kv) (fun g => con l p0 :: cells bn [.pointer none] 59 :: Lx) (fun g => 0) (()) rfl (trivial) (GivesTo.g) (sub_cons rfl (sub_cons rfl (sub_cons rfl (sub_cons rfl (sub_cons rfl (sub_cons rfl (sub_nil))))))) ?_
  intro g hg
  refine T_region ?_
  refine TL_y rfl rfl (Y_lt rfl rfl) ?_
  refine TL_name 11 (v' := .bool false) rfl (congrArg Value.bool (by decide)) ?_
  refine TL_nil ?_
  refine T_seq ?_
  refine T_cond_false rfl ?_
  refine T_exit ?_
  refine thenS_exit ?_
  refine thenS_exit ?_
  refine inB_hit ?_
  exact RetG_0 (.inr rfl) rfl GivesTo.g (rfl)
theorem whereN_iter {bn bw : Nat} : IterC Try.prog (.func (.func 107) #[] #[.pointer (some ⟨bn, 0, none⟩), .pointer (some ⟨bw, 0, none⟩)]) (fun p : PackD => [packV p]) (fun p => packOk p ∧ False) 0 [cells bn [.pointer none] 59] (fun st xs => xs = []) :=
  ⟨_, [], [.pointer (some ⟨bn, 0, none⟩), .pointer (some ⟨bw, 0, none⟩)], rfl, inferInstance, fun τ l C step stop cnt s0 Lx h0 hc hcnt hy => where1n_spec.cases_ fun v L' h => ⟨[], s0, rfl, .nil _, h⟩⟩
theorem whereN_iter' {bn bw : Nat} : IterC Try.prog (.func (.func 107) #[] #[.pointer (some ⟨bn, 0, none⟩), .pointer (some ⟨bw, 0, none⟩)]) (fun p : PackD => [packV p]) packOk 0 [cells bn [.pointer none] 59] (fun st xs => xs = []) :=
  ⟨_, [], [.pointer (some ⟨bn, 0, none⟩), .pointer (some ⟨bw, 0, none⟩)], rfl, inferInstance, fun τ l C step stop cnt s0 Lx h0 hc hcnt hy => where1n_spec.cases_ fun v L' h => ⟨[], s0, rfl, .nil _, h⟩⟩
theorem netAll_nil {L : List HP} : Fn Try.prog 42 #[.pointer none] L (fun v L' => ∃ A c, v = .slice A 0 c ∧ L' = L) := by
  refine Fn_enter Try.func42 rfl rfl rfl rfl ?_
  refine T_region ?_
  refine TL_y rfl rfl (Y_assign rfl) ?_
  refine TL_nil ?_
  refine T_region ?_
  refine TL_y rfl rfl (Y_move rfl) ?_
  refine TL_call rfl rfl (where_nil) ?_
  rintro _ _ ⟨bn, bw, rfl, rfl⟩
  refine TL_call rfl rfl (collectP_spec (Lf := [cells bn [.pointer none] 59]) (Lr := L) whereN_iter' (by decide)) ?_
  rintro _ _ ⟨A5, c5, xs, rfl, rfl, rfl⟩
  simp only [List.cons_append, List.nil_append]
  refine TL_y rfl rfl (Y_assign rfl) ?_
  refine TL_nil ?_
  refine T_ret ?_
  exact RetG_1 (.inl rfl) rfl (ResV.tmp rfl) GivesTo.g (⟨A5, c5, rfl, rfl⟩)
theorem netNobody_walk {L : List HP} (o : OpD) : Fn Try.prog 11 #[.agg (List.toArray (opC o))] L (fun v L' => v = .bool true ∧ L' = L) := by
  refine Fn_enterM Try.func11 rfl rfl rfl rfl ?_
  refine T_region ?_
  refine TL_box rfl rfl rfl ?_
  intro b1
  refine TL_alloc rfl rfl ?_
  intro b2
  refine TL_nil ?_
  refine T_region ?_
  refine TL_y rfl rfl (Y_assign rfl) ?_
  refine TL_nil ?_
  refine T_region ?_
  refine TL_y rfl rfl (Y_move rfl) ?_
  refine TL_y rfl rfl (Y_field_addr rfl) ?_
  refine TL_y rfl rfl (Y_load rfl rfl) ?_
  refine TL_y rfl rfl (Y_field_addr rfl) ?_
  refine TL_y rfl rfl (Y_load rfl rfl) ?_
  refine TL_y rfl rfl (Y_field_addr rfl) ?_
  refine TL_y rfl rfl (Y_load rfl rfl) ?_
  refine TL_call rfl rfl (netSend_nil _ _ _ _) ?_
  rintro _ _ ⟨rfl, rfl⟩
  refine TL_y rfl rfl (Y_move rfl) ?_
  refine TL_y rfl rfl (Y_extract rfl rfl) ?_
  refine TL_y rfl rfl (Y_extract rfl rfl) ?_
  refine TL_y rfl rfl (Y_assign rfl) ?_
  refine TL_y rfl rfl (Y_assign rfl) ?_
  refine TL_nil ?_
  refine T_region ?_
  refine TL_y rfl rfl (Y_move rfl) ?_
  refine TL_y rfl rfl (Y_field_addr rfl) ?_
  refine TL_y rfl rfl (Y_load rfl rfl) ?_
  refine TL_call rfl rfl (netTake_nil _ _) ?_
  rintro _ _ ⟨rfl, rfl⟩
  refine TL_y rfl rfl (Y_move rfl) ?_
  refine TL_y rfl rfl (Y_extract rfl rfl) ?_
  refine TL_y rfl rfl (Y_extract rfl rfl) ?_
  refine TL_alloc rfl rfl ?_
  intro b6
  refine TL_store rfl rfl rfl rfl rfl rfl ?_
  refine TL_y rfl rfl (Y_assign rfl) ?_
  refine TL_nil ?_
  refine T_region ?_
  refine TL_y rfl rfl (Y_move rfl) ?_
  refine TL_y rfl rfl (Y_field_addr rfl) ?_
  refine TL_y rfl rfl (Y_load rfl rfl) ?_
  refine TL_call rfl rfl (netTwice_nil _ _) ?_
  rintro _ _ ⟨rfl, rfl⟩
  refine TL_y rfl rfl (Y_move rfl) ?_
  refine TL_y rfl rfl (Y_extract rfl rfl) ?_
  refine TL_y rfl rfl (Y_extract rfl rfl) ?_
  refine TL_y rfl rfl (Y_assign rfl) ?_
  refine TL_y rfl rfl (Y_assign rfl) ?_
  refine TL_nil ?_
  refine T_region ?_
  refine TL_y rfl rfl (Y_move rfl) ?_
  refine TL_y rfl rfl (Y_field_addr rfl) ?_
  refine TL_y rfl rfl (Y_load rfl rfl) ?_
  refine TL_call rfl rfl (netAt_nil _ _) ?_
  rintro _ _ ⟨rfl, rfl⟩
  refine TL_y rfl rfl (Y_move rfl) ?_
  refine TL_y rfl rfl (Y_extract rfl rfl) ?_
  refine TL_y rfl rfl (Y_extract rfl rfl) ?_
  refine TL_y rfl rfl (Y_assign rfl) ?_
  refine TL_y rfl rfl (Y_assign rfl) ?_
  refine TL_nil ?_
  refine T_seq ?_
  refine T_region ?_
  refine TL_y rfl rfl (Y_move rfl) ?_
  refine TL_y rfl rfl (Y_field_addr rfl) ?_
  refine TL_y rfl rfl (Y_load rfl rfl) ?_
  refine TL_call rfl rfl (netTo_nil _) ?_
  rintro _ _ ⟨bn0, bw0, rfl, rfl⟩
  refine TL_y rfl rfl (Y_equal rfl rfl (EqIs.func_nil)) ?_
  refine TL_name 48 (v' := .bool false) rfl (rfl) ?_
  refine TL_nil ?_
  refine T_cond_false rfl ?_
  refine T_skip ?_
  refine thenS_normal ?_
  refine T_seq ?_
  refine T_region ?_
  refine TL_y rfl rfl (Y_move rfl) ?_
  refine TL_y rfl rfl (Y_field_addr rfl) ?_
  refine TL_y rfl rfl (Y_load rfl rfl) ?_
  refine TL_call rfl rfl (netTo_nil _) ?_
  rintro _ _ ⟨bn, bw, rfl, rfl⟩
  refine TL_nil ?_
  refine T_block ?_
  refine T_range_iter (fun g : Unit => [cells b2 [.bool false] 4]) (fun _ _ _ => False) (fun _ => 0) (()) rfl (whereN_iter) ((show Gives _ ([cells b2 [.bool false] 4] ++ ([cells bn [.pointer none] 59] ++ (cells b6 (packC pack0) 66 :: L))) from GivesTo.g (L' := cells b2 [.bool false] 4 :: cells bn [.pointer none] 59 :: cells b6 (packC pack0) 66 :: L))) (by decide) (fun _ => rfl) rfl (fun s x s' h => h.elim) (fun l900 b900 g x Lx hx hlt => ?_) (fun m900 xs g hseq hrun => ?_)
  · try simp only [List.cons_append, List.nil_append]
    refine T_skip ?_
    refine ⟨rfl, _, FindHP.g, ?_⟩
    refine T_block ?_
    refine T_region ?_
    refine TL_store rfl rfl rfl rfl rfl rfl ?_
    refine TL_nil ?_
    refine T_ret ?_
    refine inB_ret ?_
    exact ⟨(), some .ret, rfl, hx.2.elim, GivesTo.g⟩
  · subst hseq
    cases hrun
    try simp only [List.cons_append, List.nil_append]
    refine behind_none ?_
    refine inB_normal ?_
    refine thenS_normal ?_
    refine T_region ?_
    refine TL_call rfl rfl (lives04_spec _) ?_
    rintro _ _ ⟨rfl, rfl⟩
    refine TL_name 54 (v' := .bool true) rfl (rfl) ?_
    refine TL_y rfl rfl (Y_move rfl) ?_
    refine TL_grun rfl rfl ?_
    refine TL_y rfl rfl (Y_move rfl) ?_
    refine TL_grun rfl rfl ?_
    refine TL_y rfl rfl (Y_eq rfl rfl) ?_
    refine TL_name 57 (v' := .bool true) rfl (by simp) ?_
    refine TL_y rfl rfl (Y_pick_t rfl rfl) ?_
    refine TL_y rfl rfl (Y_move rfl) ?_
    refine TL_grun rfl rfl ?_
    refine TL_y rfl rfl (Y_move rfl) ?_
    refine TL_grun rfl rfl ?_
    refine TL_y rfl rfl (Y_eq rfl rfl) ?_
    refine TL_name 61 (v' := .bool true) rfl (by simp) ?_
    refine TL_y rfl rfl (Y_pick_t rfl rfl) ?_
    refine TL_y rfl rfl (Y_move rfl) ?_
    refine TL_grun rfl rfl ?_
    refine TL_y rfl rfl (Y_load_agg rfl rfl) ?_
    refine TL_grun rfl rfl ?_
    refine TL_y rfl rfl (Y_build rfl rfl) ?_
    refine TL_grun rfl rfl ?_
    refine TL_y rfl rfl (Y_eq_pack (a := pack0) (b := pack0) rfl rfl) ?_
    refine TL_name 66 (v' := .bool true) rfl (by simp) ?_
    refine TL_y rfl rfl (Y_pick_t rfl rfl) ?_
    refine TL_y rfl rfl (Y_move rfl) ?_
    refine TL_grun rfl rfl ?_
    refine TL_y rfl rfl (Y_move rfl) ?_
    refine TL_grun rfl rfl ?_
    refine TL_y rfl rfl (Y_eq rfl rfl) ?_
    refine TL_name 70 (v' := .bool true) rfl (by simp) ?_
    refine TL_y rfl rfl (Y_pick_t rfl rfl) ?_
    refine TL_y rfl rfl (Y_move rfl) ?_
    refine TL_grun rfl rfl ?_
    refine TL_y rfl rfl (Y_move rfl) ?_
    refine TL_grun rfl rfl ?_
    refine TL_y rfl rfl (Y_eq rfl rfl) ?_
    refine TL_name 74 (v' := .bool true) rfl (by simp) ?_
    refine TL_y rfl rfl (Y_pick_t rfl rfl) ?_
    refine TL_y rfl rfl (Y_move rfl) ?_
    refine TL_grun rfl rfl ?_
    refine TL_y rfl rfl (Y_move rfl) ?_
    refine TL_grun rfl rfl ?_
    refine TL_y rfl rfl (Y_eq rfl rfl) ?_
    refine TL_name 78 (v' := .bool true) rfl (by simp) ?_
    refine TL_y rfl rfl (Y_pick_t rfl rfl) ?_
    refine TL_y rfl rfl (Y_move rfl) ?_
    refine TL_grun rfl rfl ?_
    refine TL_y rfl rfl (Y_move rfl) ?_
    refine TL_grun rfl rfl ?_
    refine TL_y rfl rfl (Y_eq rfl rfl) ?_
    refine TL_name 82 (v' := .bool true) rfl (by simp) ?_
    refine TL_y rfl rfl (Y_pick_t rfl rfl) ?_
    refine TL_y rfl rfl (Y_move rfl) ?_
    refine TL_grun rfl rfl ?_
    refine TL_y rfl rfl (Y_move rfl) ?_
    refine TL_grun rfl rfl ?_
    refine TL_y rfl rfl (Y_not rfl) ?_
    refine TL_name 86 (v' := .bool true) rfl (by simp) ?_
    refine TL_y rfl rfl (Y_pick_t rfl rfl) ?_
    refine TL_y rfl rfl (Y_move rfl) ?_
    refine TL_grun rfl rfl ?_
    refine TL_y rfl rfl (Y_move rfl) ?_
    refine TL_grun rfl rfl ?_
    refine TL_call rfl rfl (netAll_nil) ?_
    rintro _ L1 ⟨A90, c90, rfl, hL⟩
    have hL := hL.symm
    subst hL
    refine TL_grun rfl rfl ?_
    refine TL_y rfl rfl (Y_len rfl) ?_
    refine TL_grun rfl rfl ?_
    refine TL_y rfl rfl (Y_eq rfl rfl) ?_
    refine TL_name 92 (v' := .bool true) rfl (by simp) ?_
    refine TL_y rfl rfl (Y_pick_t rfl rfl) ?_
    refine TL_y rfl rfl (Y_move rfl) ?_
    refine TL_grun rfl rfl ?_
    refine TL_y rfl rfl (Y_move rfl) ?_
    refine TL_grun rfl rfl ?_
    refine TL_call rfl rfl (netLen_nil _) ?_
    rintro _ _ ⟨rfl, rfl⟩
    refine TL_grun rfl rfl ?_
    refine TL_y rfl rfl (Y_eq rfl rfl) ?_
    refine TL_name 97 (v' := .bool true) rfl (by simp) ?_
    refine TL_y rfl rfl (Y_pick_t rfl rfl) ?_
    refine TL_y rfl rfl (Y_move rfl) ?_
    refine TL_grun rfl rfl ?_
    refine TL_y rfl rfl (Y_move rfl) ?_
    refine TL_grun rfl rfl ?_
    refine TL_call rfl rfl (netFork_nil _) ?_
    rintro _ _ ⟨rfl, rfl⟩
    refine TL_grun rfl rfl ?_
    refine TL_y rfl rfl (Y_equal rfl rfl (EqIs.ptr_nil)) ?_
    refine TL_name 102 (v' := .bool true) rfl (by simp) ?_
    refine TL_y rfl rfl (Y_pick_t rfl rfl) ?_
    refine TL_store rfl rfl rfl rfl rfl rfl ?_
    refine TL_nil ?_
    refine T_ret ?_
    refine retM1 ?_
    exact RetG_1 (.inl rfl) rfl (ResV.cell rfl rfl) GivesTo.g (⟨rfl, rfl⟩)
end Go.SL
