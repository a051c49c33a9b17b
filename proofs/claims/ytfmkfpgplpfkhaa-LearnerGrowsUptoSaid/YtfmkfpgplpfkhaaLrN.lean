/- Learner: what must come of every program; nobody's learner. -/
import Derived.Test.YtfmkfpgplpfkhaaLrD
set_option linter.unusedVariables false
set_option linter.unusedSimpArgs false
namespace Go.SL
open Go Go.Proofs
instance {f : Go.Fn} {a c : Array Value} : EqBy (.func f a c) .nilFunc := ⟨fun t => by simp only [binOp], fun t => by simp only [binOp], fun op t x y => by cases op <;> rfl⟩
theorem EqIs.func_nil {P : Program} {t : TypeId} {f : Go.Fn} {a c : Array Value} {ps rs : Array TypeId} {vr : Bool} [ht : TyDesc P t (.func ps rs vr)] : EqIs P t (.func f a c) .nilFunc false := fun d w => by
  simp [Op.equalIn, ht.run]
abbrev noopE : EntryD := ⟨true, ⟨⟨#[]⟩, ⟨#[]⟩, 0, []⟩⟩
abbrev tcE : EntryD := ⟨false, ⟨⟨#[116]⟩, ⟨#[99]⟩, 0, []⟩⟩
abbrev lz1 : List SlotD := [(1, noopE)]
abbrev lz2 : List SlotD := [(0, noopE), (1, noopE)]
theorem lz_1 : chooseS [] 1 noopE = (lz1, 0) := by decide +kernel
theorem lz_2 : chooseS lz1 0 noopE = (lz2, 0) := by decide +kernel
theorem lz_3 : chooseS lz2 0 tcE = (lz2, 180) := by decide +kernel
theorem lz_4 : missingS lz1 5 = [0] := by decide +kernel
theorem lz_5 : extraN lz2 = [] := by decide +kernel
theorem lz_6 : pfx lz2 = 2 := by decide +kernel
theorem noop_ok : orderOk' noopE.order := ⟨by decide, by decide, by decide, by decide⟩
theorem lives18_spec (L : List HP) : Fn Try.prog 23 #[] L (fun v L' => v = .bool true ∧ L' = L) := by
  refine Fn_enter Try.func23 rfl rfl rfl rfl ?_
  refine T_region ?_
  refine TL_y rfl rfl (Y_assign rfl) ?_
  refine TL_nil ?_
  refine T_region ?_
  refine TL_call rfl rfl (lrNew_spec _) ?_
  rintro _ _ ⟨b7, rfl, rfl⟩
  refine TL_y rfl rfl (Y_assign rfl) ?_
  refine TL_nil ?_
  refine T_seq ?_
  refine T_region ?_
  refine TL_y rfl rfl (Y_move rfl) ?_
  refine TL_y rfl rfl (Y_equal rfl rfl (EqIs.ptr_nil)) ?_
  refine TL_name 9 (v' := .bool false) rfl (by simp) ?_
  refine TL_y rfl rfl (Y_move rfl) ?_
  refine TL_grun rfl rfl ?_
  refine TL_y rfl rfl (Y_move rfl) ?_
  refine TL_grun rfl rfl ?_
  refine TL_call rfl rfl (lrFrom_spec 0) ?_
  rintro _ _ ⟨bl, bs, rfl, rfl⟩
  refine TL_grun rfl rfl ?_
  refine TL_y rfl rfl (Y_equal rfl rfl (EqIs.func_nil)) ?_
  refine TL_name 13 (v' := .bool false) rfl (rfl) ?_
  refine TL_y rfl rfl (Y_pick_f rfl rfl) ?_
  refine TL_nil ?_
  refine T_cond_false rfl ?_
  refine T_skip ?_
  refine thenS_normal ?_
  refine T_region ?_
  refine TL_y rfl rfl (Y_build rfl rfl) ?_
  refine TL_alloc rfl rfl ?_
  intro b2
  refine TL_store rfl rfl rfl rfl rfl rfl ?_
  refine TL_nil ?_
  refine T_region ?_
  refine TL_y rfl rfl (Y_move rfl) ?_
  refine TL_y rfl rfl (Y_load_agg rfl rfl) ?_
  refine TL_pullk b7 ?_
  refine TL_call rfl rfl (lrChoose_spec (l := []) 1 noopE (by decide) noop_ok (by decide) .nil) ?_
  rintro _ _ ⟨rfl, rfl⟩
  rw [lz_1]
  refine TL_y rfl rfl (Y_assign rfl) ?_
  refine TL_nil ?_
  refine T_region ?_
  refine TL_y rfl rfl (Y_move rfl) ?_
  refine TL_pullk b7 ?_
  refine TL_call rfl rfl (lrMissing_spec (l := lz1) 5) ?_
  rintro _ _ ⟨A20, c20, rfl, rfl⟩
  refine TL_freeze_osl ?_
  rw [lz_4]
  refine TL_y rfl rfl (Y_assign rfl) ?_
  refine TL_nil ?_
  refine T_region ?_
  refine TL_y rfl rfl (Y_move rfl) ?_
  refine TL_y rfl rfl (Y_load_agg rfl rfl) ?_
  refine TL_pullk b7 ?_
  refine TL_call rfl rfl (lrChoose_spec (l := lz1) 0 noopE (by decide) noop_ok (by decide) .nil) ?_
  rintro _ _ ⟨rfl, rfl⟩
  rw [lz_2]
  refine TL_y rfl rfl (Y_assign rfl) ?_
  refine TL_nil ?_
  refine T_region ?_
  refine TL_y rfl rfl (Y_move rfl) ?_
  refine TL_y rfl rfl (Y_build rfl rfl) ?_
  refine TL_y rfl rfl (Y_build rfl rfl) ?_
  refine TL_pullk b7 ?_
  refine TL_call rfl rfl (lrChoose_spec (l := lz2) 0 tcE (by decide) ⟨by decide, by decide, by decide, by decide⟩ (by decide) .nil) ?_
  rintro _ _ ⟨rfl, rfl⟩
  rw [lz_3]
  refine TL_y rfl rfl (Y_assign rfl) ?_
  refine TL_nil ?_
  refine T_region ?_
  refine TL_y rfl rfl (Y_move rfl) ?_
  refine TL_y rfl rfl (Y_eq rfl rfl) ?_
  refine TL_name 29 (v' := .bool true) rfl (by simp) ?_
  refine TL_y rfl rfl (Y_move rfl) ?_
  refine TL_grun rfl rfl ?_
  refine TL_y rfl rfl (Y_move rfl) ?_
  refine TL_grun rfl rfl ?_
  refine TL_y rfl rfl (Y_len rfl) ?_
  refine TL_grun rfl rfl ?_
  refine TL_y rfl rfl (Y_eq rfl rfl) ?_
  refine TL_name 33 (v' := .bool true) rfl (by simp) ?_
  refine TL_y rfl rfl (Y_pick_t rfl rfl) ?_
  refine TL_y rfl rfl (Y_move rfl) ?_
  refine TL_grun rfl rfl ?_
  refine TL_y rfl rfl (Y_move rfl) ?_
  refine TL_grun rfl rfl ?_
  refine TL_index_int rfl rfl rfl slk (show ([0] : List Int)[0]? = some 0 from rfl) ?_
  intro hi37 bi37 oi37
  refine TL_grun rfl rfl ?_
  refine TL_y rfl rfl (Y_load_row rfl rfl) ?_
  refine TL_grun rfl rfl ?_
  refine TL_y rfl rfl (Y_eq rfl rfl) ?_
  refine TL_name 39 (v' := .bool true) rfl (by simp) ?_
  refine TL_y rfl rfl (Y_pick_t rfl rfl) ?_
  refine TL_y rfl rfl (Y_move rfl) ?_
  refine TL_grun rfl rfl ?_
  refine TL_y rfl rfl (Y_move rfl) ?_
  refine TL_grun rfl rfl ?_
  refine TL_y rfl rfl (Y_eq rfl rfl) ?_
  refine TL_name 43 (v' := .bool true) rfl (by simp) ?_
  refine TL_y rfl rfl (Y_pick_t rfl rfl) ?_
  refine TL_y rfl rfl (Y_move rfl) ?_
  refine TL_grun rfl rfl ?_
  refine TL_y rfl rfl (Y_move rfl) ?_
  refine TL_grun rfl rfl ?_
  refine TL_y rfl rfl (Y_eq rfl rfl) ?_
  refine TL_name 47 (v' := .bool true) rfl (by simp) ?_
  refine TL_y rfl rfl (Y_pick_t rfl rfl) ?_
  refine TL_y rfl rfl (Y_move rfl) ?_
  refine TL_grun rfl rfl ?_
  refine TL_y rfl rfl (Y_move rfl) ?_
  refine TL_grun rfl rfl ?_
  refine TL_pullk b7 ?_
  refine TL_call rfl rfl (lrPrefix_spec (l := lz2)) ?_
  rintro _ _ ⟨rfl, rfl⟩
  rw [lz_6]
  refine TL_grun rfl rfl ?_
  refine TL_y rfl rfl (Y_eq rfl rfl) ?_
  refine TL_name 52 (v' := .bool true) rfl (by simp) ?_
  refine TL_y rfl rfl (Y_pick_t rfl rfl) ?_
  refine TL_y rfl rfl (Y_move rfl) ?_
  refine TL_grun rfl rfl ?_
  refine TL_y rfl rfl (Y_move rfl) ?_
  refine TL_grun rfl rfl ?_
  refine TL_pullk b7 ?_
  refine TL_call rfl rfl (lrExtras_spec (l := lz2)) ?_
  rintro _ _ ⟨A56, c56, rfl, rfl⟩
  rw [lz_5]
  refine TL_grun rfl rfl ?_
  refine TL_y rfl rfl (Y_len rfl) ?_
  refine TL_grun rfl rfl ?_
  refine TL_y rfl rfl (Y_eq rfl rfl) ?_
  refine TL_name 58 (v' := .bool true) rfl (by simp) ?_
  refine TL_y rfl rfl (Y_pick_t rfl rfl) ?_
  refine TL_y rfl rfl (Y_move rfl) ?_
  refine TL_grun rfl rfl ?_
  refine TL_y rfl rfl (Y_move rfl) ?_
  refine TL_grun rfl rfl ?_
  refine TL_pullk b7 ?_
  refine TL_call rfl rfl (lrLen_spec (l := lz2)) ?_
  rintro _ _ ⟨rfl, rfl⟩
  refine TL_grun rfl rfl ?_
  refine TL_y rfl rfl (Y_eq rfl rfl) ?_
  refine TL_name 63 (v' := .bool true) rfl (by simp) ?_
  refine TL_y rfl rfl (Y_pick_t rfl rfl) ?_
  refine TL_y rfl rfl (Y_assign rfl) ?_
  refine TL_nil ?_
  refine T_ret ?_
  exact RetG_1 (.inl rfl) rfl (ResV.tmp rfl) GivesTo.g (⟨rfl, rfl⟩)
theorem lrGet_nil (L : List HP) (k : Int) : Fn Try.prog 28 #[.pointer none, .int .i64 k] L (fun v L' => v = .tuple #[entV noopE (none, 0), .bool false] ∧ L' = L) := by
  refine Fn_enter Try.func28 rfl rfl rfl rfl ?_
  refine T_region ?_
  refine TL_alloc rfl rfl ?_
  intro b4
  refine TL_y rfl rfl (Y_assign rfl) ?_
  refine TL_nil ?_
  refine T_seq ?_
  refine T_region ?_
  refine TL_y rfl rfl (Y_move rfl) ?_
  refine TL_call rfl rfl (lrMade_nil _) ?_
  rintro _ _ ⟨rfl, rfl⟩
  refine TL_name 9 (v' := .bool false) rfl (rfl) ?_
  refine TL_nil ?_
  refine T_cond_false rfl ?_
  refine T_skip ?_
  refine thenS_normal ?_
  refine T_region ?_
  refine TL_y rfl rfl (Y_build rfl rfl) ?_
  refine TL_store rfl rfl rfl rfl rfl rfl ?_
  refine TL_y rfl rfl (Y_assign rfl) ?_
  refine TL_nil ?_
  refine T_ret ?_
  exact RetG_2 (.inl rfl) rfl (ResV.agg rfl rfl) (ResV.tmp rfl) GivesTo.g (⟨rfl, rfl⟩)
theorem lrPrefix_nil (L : List HP) : Fn Try.prog 27 #[.pointer none] L (fun v L' => v = .int .i64 0 ∧ L' = L) := by
  refine Fn_enter Try.func27 rfl rfl rfl rfl ?_
  refine T_region ?_
  refine TL_y rfl rfl (Y_assign rfl) ?_
  refine TL_nil ?_
  refine T_seq ?_
  refine T_region ?_
  refine TL_y rfl rfl (Y_move rfl) ?_
  refine TL_call rfl rfl (lrMade_nil _) ?_
  rintro _ _ ⟨rfl, rfl⟩
  refine TL_name 4 (v' := .bool false) rfl (rfl) ?_
  refine TL_y rfl rfl (Y_not_f rfl) ?_
  refine TL_nil ?_
  refine T_cond_true rfl ?_
  refine T_region ?_
  refine TL_y rfl rfl (Y_assign rfl) ?_
  refine TL_nil ?_
  refine T_ret ?_
  refine thenS_ret ?_
  exact RetG_1 (.inl rfl) rfl (ResV.tmp rfl) GivesTo.g (⟨rfl, rfl⟩)
theorem lrLen_nil (L : List HP) : Fn Try.prog 32 #[.pointer none] L (fun v L' => v = .int .i64 0 ∧ L' = L) := by
  refine Fn_enter Try.func32 rfl rfl rfl rfl ?_
  refine T_region ?_
  refine TL_y rfl rfl (Y_assign rfl) ?_
  refine TL_nil ?_
  refine T_seq ?_
  refine T_region ?_
  refine TL_y rfl rfl (Y_move rfl) ?_
  refine TL_call rfl rfl (lrMade_nil _) ?_
  rintro _ _ ⟨rfl, rfl⟩
  refine TL_name 4 (v' := .bool false) rfl (rfl) ?_
  refine TL_y rfl rfl (Y_not_f rfl) ?_
  refine TL_nil ?_
  refine T_cond_true rfl ?_
  refine T_region ?_
  refine TL_y rfl rfl (Y_assign rfl) ?_
  refine TL_nil ?_
  refine T_ret ?_
  refine thenS_ret ?_
  exact RetG_1 (.inl rfl) rfl (ResV.tmp rfl) GivesTo.g (⟨rfl, rfl⟩)
theorem lrFork_nil (L : List HP) : Fn Try.prog 35 #[.pointer none] L (fun v L' => v = .pointer none ∧ L' = L) := by
  refine Fn_enter Try.func35 rfl rfl rfl rfl ?_
  refine T_region ?_
  refine TL_y rfl rfl (Y_assign rfl) ?_
  refine TL_nil ?_
  refine T_seq ?_
  refine T_region ?_
  refine TL_y rfl rfl (Y_move rfl) ?_
  refine TL_call rfl rfl (lrMade_nil _) ?_
  rintro _ _ ⟨rfl, rfl⟩
  refine TL_name 4 (v' := .bool false) rfl (rfl) ?_
  refine TL_y rfl rfl (Y_not_f rfl) ?_
  refine TL_nil ?_
  refine T_cond_true rfl ?_
  refine T_region ?_
  refine TL_y rfl rfl (Y_assign rfl) ?_
  refine TL_nil ?_
  refine T_ret ?_
  refine thenS_ret ?_
  exact RetG_1 (.inl rfl) rfl (ResV.tmp rfl) GivesTo.g (⟨rfl, rfl⟩)
theorem lrSlots_nil (L : List HP) : Fn Try.prog 53 #[.pointer none] L (fun v L' => v = .slice none 0 0 ∧ L' = L) := by
  refine Fn_enter Try.func53 rfl rfl rfl rfl ?_
  refine T_region ?_
  refine TL_y rfl rfl (Y_assign rfl) ?_
  refine TL_nil ?_
  refine T_seq ?_
  refine T_region ?_
  refine TL_y rfl rfl (Y_move rfl) ?_
  refine TL_call rfl rfl (lrMade_nil _) ?_
  rintro _ _ ⟨rfl, rfl⟩
  refine TL_name 4 (v' := .bool false) rfl (rfl) ?_
  refine TL_y rfl rfl (Y_not_f rfl) ?_
  refine TL_nil ?_
  refine T_cond_true rfl ?_
  refine T_region ?_
  refine TL_y rfl rfl (Y_assign rfl) ?_
  refine TL_nil ?_
  refine T_ret ?_
  refine thenS_ret ?_
  exact RetG_1 (.inl rfl) rfl (ResV.tmp rfl) GivesTo.g (⟨rfl, rfl⟩)
theorem lrExtras_nil (L : List HP) : Fn Try.prog 30 #[.pointer none] L (fun v L' => v = .slice none 0 0 ∧ L' = L) := by
  refine Fn_enter Try.func30 rfl rfl rfl rfl ?_
  refine T_region ?_
  refine TL_y rfl rfl (Y_assign rfl) ?_
  refine TL_nil ?_
  refine T_region ?_
  refine TL_y rfl rfl (Y_assign rfl) ?_
  refine TL_nil ?_
  refine T_seq ?_
  refine T_region ?_
  refine TL_y rfl rfl (Y_move rfl) ?_
  refine TL_call rfl rfl (lrSlots_nil _) ?_
  rintro _ L1 ⟨rfl, hL⟩
  have hL := hL.symm
  subst hL
  refine TL_y rfl rfl (Y_len rfl) ?_
  refine TL_y rfl rfl (Y_move rfl) ?_
  refine TL_nil ?_
  refine T_block ?_
  refine T_loopK (σ := Unit) [0, 7, 8] (fun g => True) (fun g kv => (9, .int .i64 0) :: (3, .slice none 0 0) :: kv) (fun g => L) (fun g => 0) (()) rfl (trivial) (GivesTo.g) (sub_cons rfl (sub_cons rfl (sub_cons rfl (sub_cons rfl (sub_cons rfl (sub_nil)))))) ?_
  intro g hg
  refine T_region ?_
  refine TL_y rfl rfl (Y_lt rfl rfl) ?_
  refine TL_name 10 (v' := .bool false) rfl (congrArg Value.bool (by decide)) ?_
  refine TL_nil ?_
  refine T_seq ?_
  refine T_cond_false rfl ?_
  refine T_exit ?_
  refine thenS_exit ?_
  refine thenS_exit ?_
  refine inB_hit ?_
  refine thenS_normal ?_
  refine T_region ?_
  refine TL_y rfl rfl (Y_move rfl) ?_
  refine TL_y rfl rfl (Y_assign rfl) ?_
  refine TL_nil ?_
  refine T_ret ?_
  exact RetG_1 (.inl rfl) rfl (ResV.tmp rfl) GivesTo.g (⟨rfl, rfl⟩)
theorem lrMissing_nil (L : List HP) (k : Int) : Fn Try.prog 31 #[.pointer none, .int .i64 k] L (fun v L' => v = .slice none 0 0 ∧ L' = L) := by
  refine Fn_enter Try.func31 rfl rfl rfl rfl ?_
  refine T_region ?_
  refine TL_y rfl rfl (Y_assign rfl) ?_
  refine TL_nil ?_
  refine T_region ?_
  refine TL_y rfl rfl (Y_assign rfl) ?_
  refine TL_nil ?_
  refine T_region ?_
  refine TL_y rfl rfl (Y_move rfl) ?_
  refine TL_call rfl rfl (lrPrefix_nil _) ?_
  rintro _ L1 ⟨rfl, hL⟩
  have hL := hL.symm
  subst hL
  refine TL_y rfl rfl (Y_assign rfl) ?_
  refine TL_nil ?_
  refine T_seq ?_
  refine T_region ?_
  refine TL_y rfl rfl (Y_move rfl) ?_
  refine TL_call rfl rfl (lrExtras_nil _) ?_
  rintro _ L2 ⟨rfl, hL⟩
  have hL := hL.symm
  subst hL
  refine TL_y rfl rfl (Y_len rfl) ?_
  refine TL_y rfl rfl (Y_move rfl) ?_
  refine TL_nil ?_
  refine T_block ?_
  refine T_loopK (σ := Unit) [1, 12, 13] (fun g => True) (fun g kv => (14, .int .i64 0) :: (6, .int .i64 0) :: (5, .slice none 0 0) :: kv) (fun g => L) (fun g => 0) (()) rfl (trivial) (GivesTo.g) (sub_cons rfl (sub_cons rfl (sub_cons rfl (sub_cons rfl (sub_cons rfl (sub_cons rfl (sub_nil))))))) ?_
  intro g hg
  refine T_region ?_
  refine TL_y rfl rfl (Y_lt rfl rfl) ?_
  refine TL_name 15 (v' := .bool false) rfl (congrArg Value.bool (by decide)) ?_
  refine TL_nil ?_
  refine T_seq ?_
  refine T_cond_false rfl ?_
  refine T_exit ?_
  refine thenS_exit ?_
  refine thenS_exit ?_
  refine inB_hit ?_
  refine thenS_normal ?_
  refine T_region ?_
  refine TL_y rfl rfl (Y_move rfl) ?_
  refine TL_y rfl rfl (Y_assign rfl) ?_
  refine TL_nil ?_
  refine T_ret ?_
  exact RetG_1 (.inl rfl) rfl (ResV.tmp rfl) GivesTo.g (⟨rfl, rfl⟩)
theorem lrChoose_nil (L : List HP) (k : Int) (e : EntryD) (p : Option Addr × Nat) : Fn Try.prog 24 #[.pointer none, .int .i64 k, entV e p] L (fun v L' => v = .int .i64 6 ∧ L' = L) := by
  refine Fn_enter Try.func24 rfl rfl rfl rfl ?_
  refine T_region ?_
  refine TL_box rfl rfl rfl ?_
  intro b5
  refine TL_y rfl rfl (Y_assign rfl) ?_
  refine TL_nil ?_
  refine T_seq ?_
  refine T_region ?_
  refine TL_y rfl rfl (Y_move rfl) ?_
  refine TL_call rfl rfl (lrMade_nil _) ?_
  rintro _ _ ⟨rfl, rfl⟩
  refine TL_name 14 (v' := .bool false) rfl (rfl) ?_
  refine TL_y rfl rfl (Y_not_f rfl) ?_
  refine TL_nil ?_
  refine T_cond_true rfl ?_
  refine T_region ?_
  refine TL_y rfl rfl (Y_assign rfl) ?_
  refine TL_nil ?_
  refine T_ret ?_
  refine thenS_ret ?_
  exact RetG_1 (.inl rfl) rfl (ResV.tmp rfl) GivesTo.g (⟨rfl, rfl⟩)
theorem lrFrom_nil {L : List HP} (slot : Int) : Fn Try.prog 25 #[.pointer none, .int .i64 slot] L (fun v L' => ∃ bl bs, v = .func (.func 51) #[] #[.pointer (some ⟨bs, 0, none⟩), .pointer (some ⟨bl, 0, none⟩)] ∧ L' = cells bl [.pointer none] 46 :: cells bs [.int .i64 slot] 3 :: L) := by
  refine Fn_enter Try.func25 rfl rfl rfl rfl ?_
  refine T_region ?_
  refine TL_box rfl rfl rfl ?_
  intro b2
  refine TL_box rfl rfl rfl ?_
  intro b3
  refine TL_y rfl rfl (Y_assign rfl) ?_
  refine TL_nil ?_
  refine T_region ?_
  refine TL_y rfl rfl (Y_make_func rfl rfl) ?_
  refine TL_y rfl rfl (Y_assign rfl) ?_
  refine TL_nil ?_
  refine T_ret ?_
  exact RetG_1 (.inl rfl) rfl (ResV.tmp rfl) GivesTo.g (⟨b2, b3, rfl, rfl⟩)
theorem from1n_spec {ly bl bs : Nat} {slot : Int} {p0 : HP} {Lx : List HP} : Fn Try.prog 51 #[.func (.yield ly) #[] #[], .pointer (some ⟨bs, 0, none⟩), .pointer (some ⟨bl, 0, none⟩)] (con ly p0 :: cells bl [.pointer none] 46 :: cells bs [.int .i64 slot] 3 :: Lx) (fun v L' => L' = con ly p0 :: cells bl [.pointer none] 46 :: cells bs [.int .i64 slot] 3 :: Lx) := by
  obtain ⟨f, hf⟩ : ∃ f : Nat, f = (max slot 0).toNat := ⟨_, rfl⟩
  refine Fn_enter Try.func51 rfl rfl rfl rfl ?_
  refine T_region ?_
  refine TL_y rfl rfl (Y_load rfl rfl) ?_
  refine TL_y rfl rfl (Y_max rfl rfl) ?_
  refine TL_name 8 (v' := .int .i64 (f : Int)) rfl (by congr 1; omega) ?_
  refine TL_y rfl rfl (Y_assign rfl) ?_
  refine TL_nil ?_
  refine T_block ?_
  refine T_loopK (σ := Unit) [0, 2] (fun g => True) (fun g kv => (4, .int .i64 (f : Int)) :: kv) (fun g => con ly p0 :: cells bl [.pointer none] 46 :: cells bs [.int .i64 slot] 3 :: Lx) (fun g => 0) (()) rfl (trivial) (GivesTo.g) (sub_cons rfl (sub_cons rfl (sub_cons rfl (sub_nil)))) ?_
  intro g hg
  refine T_seq ?_
  refine T_region ?_
  refine TL_y rfl rfl (Y_move rfl) ?_
  refine TL_y rfl rfl (Y_load rfl rfl) ?_
  refine TL_call rfl rfl (lrPrefix_nil _) ?_
  rintro _ L1 ⟨rfl, hL⟩
  have hL := hL.symm
  subst hL
  refine TL_y rfl rfl (Y_lt rfl rfl) ?_
  refine TL_name 12 (v' := .bool false) rfl (congrArg Value.bool (decide_eq_false (by omega))) ?_
  refine TL_nil ?_
  refine T_cond_false rfl ?_
  refine T_exit ?_
  refine thenS_exit ?_
  refine thenS_exit ?_
  refine inB_hit ?_
  exact RetG_0 (.inr rfl) rfl GivesTo.g (rfl)
theorem fromN_iter {bl bs : Nat} {slot : Int} : IterL Try.prog (.func (.func 51) #[] #[.pointer (some ⟨bs, 0, none⟩), .pointer (some ⟨bl, 0, none⟩)]) fromVal (fun _ _ => False) 0 [cells bl [.pointer none] 46, cells bs [.int .i64 slot] 3] (fun st xs => xs = []) :=
  ⟨_, [], [.pointer (some ⟨bs, 0, none⟩), .pointer (some ⟨bl, 0, none⟩)], rfl, inferInstance, fun τ l C step stop cnt s0 Lx h0 hc hcnt hy => from1n_spec.cases_ fun v L' h => ⟨[], s0, rfl, .nil _, h⟩⟩
theorem learnerNobody_walk {L : List HP} (slot : Int) (e : EntryD) (p : Option Addr × Nat) : Fn Try.prog 8 #[.int .i64 slot, entV e p] L (fun v L' => v = .bool true ∧ L' = L) := by
  refine Fn_enterM Try.func8 rfl rfl rfl rfl ?_
  refine T_region ?_
  refine TL_box rfl rfl rfl ?_
  intro b3
  refine TL_alloc rfl rfl ?_
  intro b4
  refine TL_nil ?_
  refine T_region ?_
  refine TL_y rfl rfl (Y_assign rfl) ?_
  refine TL_nil ?_
  refine T_region ?_
  refine TL_y rfl rfl (Y_move rfl) ?_
  refine TL_y rfl rfl (Y_move rfl) ?_
  refine TL_call rfl rfl (lrGet_nil _ _) ?_
  rintro _ _ ⟨rfl, rfl⟩
  refine TL_y rfl rfl (Y_move rfl) ?_
  refine TL_y rfl rfl (Y_extract rfl rfl) ?_
  refine TL_y rfl rfl (Y_extract rfl rfl) ?_
  refine TL_alloc rfl rfl ?_
  intro b6
  refine TL_store rfl rfl rfl rfl rfl rfl ?_
  refine TL_y rfl rfl (Y_assign rfl) ?_
  refine TL_nil ?_
  refine T_seq ?_
  refine T_region ?_
  refine TL_y rfl rfl (Y_move rfl) ?_
  refine TL_y rfl rfl (Y_move rfl) ?_
  refine TL_call rfl rfl (lrFrom_nil _) ?_
  rintro _ _ ⟨bl0, bs0, rfl, rfl⟩
  refine TL_y rfl rfl (Y_equal rfl rfl (EqIs.func_nil)) ?_
  refine TL_name 17 (v' := .bool false) rfl (rfl) ?_
  refine TL_nil ?_
  refine T_cond_false rfl ?_
  refine T_skip ?_
  refine thenS_normal ?_
  refine T_seq ?_
  refine T_region ?_
  refine TL_y rfl rfl (Y_move rfl) ?_
  refine TL_y rfl rfl (Y_move rfl) ?_
  refine TL_call rfl rfl (lrFrom_nil _) ?_
  rintro _ _ ⟨bl, bs, rfl, rfl⟩
  refine TL_nil ?_
  refine T_block ?_
  refine T_range_iter (fun g : Unit => [cells b4 [.bool false] 4]) (fun _ _ _ => False) (fun _ => 0) (()) rfl (fromN_iter) ((show Gives _ ([cells b4 [.bool false] 4] ++ ([cells bl [.pointer none] 46, cells bs [.int .i64 slot] 3] ++ (cells b3 (entryC e p) 54 :: cells b6 (entryC noopE (none, 0)) 54 :: L))) from GivesTo.g (L' := cells b4 [.bool false] 4 :: cells bl [.pointer none] 46 :: cells bs [.int .i64 slot] 3 :: cells b3 (entryC e p) 54 :: cells b6 (entryC noopE (none, 0)) 54 :: L))) (by decide) (fun _ => rfl) rfl (fun s x s' h => h.elim) (fun l900 b900 g x Lx hx hlt => ?_) (fun m900 xs g hseq hrun => ?_)
  · try simp only [List.cons_append, List.nil_append]
    refine T_skip ?_
    refine ⟨rfl, _, FindHP.g, ?_⟩
    refine T_block ?_
    refine T_region ?_
    refine TL_store rfl rfl rfl rfl rfl rfl ?_
    refine TL_nil ?_
    refine T_ret ?_
    refine inB_ret ?_
    exact ⟨(), some .ret, rfl, hx.elim, GivesTo.g⟩
  · subst hseq
    cases hrun
    try simp only [List.cons_append, List.nil_append]
    refine behind_none ?_
    refine inB_normal ?_
    refine thenS_normal ?_
    refine T_region ?_
    refine TL_call rfl rfl (lives18_spec _) ?_
    rintro _ _ ⟨rfl, rfl⟩
    refine TL_name 23 (v' := .bool true) rfl (rfl) ?_
    refine TL_y rfl rfl (Y_move rfl) ?_
    refine TL_grun rfl rfl ?_
    refine TL_y rfl rfl (Y_move rfl) ?_
    refine TL_grun rfl rfl ?_
    refine TL_y rfl rfl (Y_move rfl) ?_
    refine TL_grun rfl rfl ?_
    refine TL_y rfl rfl (Y_load_agg rfl rfl) ?_
    refine TL_grun rfl rfl ?_
    refine TL_call rfl rfl (lrChoose_nil _ _ _ _) ?_
    rintro _ _ ⟨rfl, rfl⟩
    refine TL_grun rfl rfl ?_
    refine TL_y rfl rfl (Y_eq rfl rfl) ?_
    refine TL_name 29 (v' := .bool true) rfl (by simp) ?_
    refine TL_y rfl rfl (Y_pick_t rfl rfl) ?_
    refine TL_y rfl rfl (Y_move rfl) ?_
    refine TL_grun rfl rfl ?_
    refine TL_y rfl rfl (Y_load_agg rfl rfl) ?_
    refine TL_grun rfl rfl ?_
    refine TL_y rfl rfl (Y_build rfl rfl) ?_
    refine TL_grun rfl rfl ?_
    refine TL_call rfl rfl (sameEntry_spec noopE noopE .nil .nil) ?_
    rintro _ _ ⟨rfl, rfl⟩
    refine TL_name 34 (v' := .bool true) rfl (by simp) ?_
    refine TL_y rfl rfl (Y_pick_t rfl rfl) ?_
    refine TL_y rfl rfl (Y_move rfl) ?_
    refine TL_grun rfl rfl ?_
    refine TL_y rfl rfl (Y_move rfl) ?_
    refine TL_grun rfl rfl ?_
    refine TL_y rfl rfl (Y_not rfl) ?_
    refine TL_name 38 (v' := .bool true) rfl (by simp) ?_
    refine TL_y rfl rfl (Y_pick_t rfl rfl) ?_
    refine TL_y rfl rfl (Y_move rfl) ?_
    refine TL_grun rfl rfl ?_
    refine TL_y rfl rfl (Y_move rfl) ?_
    refine TL_grun rfl rfl ?_
    refine TL_call rfl rfl (lrPrefix_nil _) ?_
    rintro _ _ ⟨rfl, rfl⟩
    refine TL_grun rfl rfl ?_
    refine TL_y rfl rfl (Y_eq rfl rfl) ?_
    refine TL_name 43 (v' := .bool true) rfl (by simp) ?_
    refine TL_y rfl rfl (Y_pick_t rfl rfl) ?_
    refine TL_y rfl rfl (Y_move rfl) ?_
    refine TL_grun rfl rfl ?_
    refine TL_y rfl rfl (Y_move rfl) ?_
    refine TL_grun rfl rfl ?_
    refine TL_call rfl rfl (lrExtras_nil _) ?_
    rintro _ _ ⟨rfl, rfl⟩
    refine TL_grun rfl rfl ?_
    refine TL_y rfl rfl (Y_len rfl) ?_
    refine TL_grun rfl rfl ?_
    refine TL_y rfl rfl (Y_eq rfl rfl) ?_
    refine TL_name 49 (v' := .bool true) rfl (by simp) ?_
    refine TL_y rfl rfl (Y_pick_t rfl rfl) ?_
    refine TL_y rfl rfl (Y_move rfl) ?_
    refine TL_grun rfl rfl ?_
    refine TL_y rfl rfl (Y_move rfl) ?_
    refine TL_grun rfl rfl ?_
    refine TL_call rfl rfl (lrMissing_nil _ _) ?_
    rintro _ _ ⟨rfl, rfl⟩
    refine TL_grun rfl rfl ?_
    refine TL_y rfl rfl (Y_len rfl) ?_
    refine TL_grun rfl rfl ?_
    refine TL_y rfl rfl (Y_eq rfl rfl) ?_
    refine TL_name 55 (v' := .bool true) rfl (by simp) ?_
    refine TL_y rfl rfl (Y_pick_t rfl rfl) ?_
    refine TL_y rfl rfl (Y_move rfl) ?_
    refine TL_grun rfl rfl ?_
    refine TL_y rfl rfl (Y_move rfl) ?_
    refine TL_grun rfl rfl ?_
    refine TL_call rfl rfl (lrLen_nil _) ?_
    rintro _ _ ⟨rfl, rfl⟩
    refine TL_grun rfl rfl ?_
    refine TL_y rfl rfl (Y_eq rfl rfl) ?_
    refine TL_name 60 (v' := .bool true) rfl (by simp) ?_
    refine TL_y rfl rfl (Y_pick_t rfl rfl) ?_
    refine TL_y rfl rfl (Y_move rfl) ?_
    refine TL_grun rfl rfl ?_
    refine TL_y rfl rfl (Y_move rfl) ?_
    refine TL_grun rfl rfl ?_
    refine TL_call rfl rfl (lrFork_nil _) ?_
    rintro _ _ ⟨rfl, rfl⟩
    refine TL_grun rfl rfl ?_
    refine TL_y rfl rfl (Y_equal rfl rfl (EqIs.ptr_nil)) ?_
    refine TL_name 65 (v' := .bool true) rfl (by simp) ?_
    refine TL_y rfl rfl (Y_pick_t rfl rfl) ?_
    refine TL_store rfl rfl rfl rfl rfl rfl ?_
    refine TL_nil ?_
    refine T_ret ?_
    refine retM1 ?_
    exact RetG_1 (.inl rfl) rfl (ResV.cell rfl rfl) GivesTo.g (⟨rfl, rfl⟩)
end Go.SL
