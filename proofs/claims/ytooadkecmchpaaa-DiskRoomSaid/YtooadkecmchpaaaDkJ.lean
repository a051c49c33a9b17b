/- Disk: what must come of every program; nobody's disk. -/
import Derived.Test.YtooadkecmchpaaaDkI
set_option linter.unusedVariables false
set_option linter.unusedSimpArgs false
namespace Go.SL
open Go Go.Proofs
theorem file_eq {a b : FileD} : a = b ↔ a.name = b.name ∧ a.bytes = b.bytes ∧ a.synced = b.synced := by cases a; cases b; simp
instance : DecidableEq FileD := fun a b => decidable_of_iff _ file_eq.symm
theorem file_guard : Try.prog.eqGuardType Try.prog.depth 79 = false := by kernel_rfl
theorem file_held : Try.prog.stoodInHeld 79 = false := by kernel_rfl
theorem file_eq0 (dd : Nat) (w : World) (a b : FileD) : (Op.equalIn (dd + 2) 79 (fileV a) (fileV b)).run Try.prog w = .ok (decide (a = b)) w := by
  have hn : ∀ x y, (Op.equalIn (dd + 1) 3 (.int .i64 x) (.int .i64 y)).run Try.prog w = .ok (decide (x = y)) w := fun x y => EqIs.int (k := .i64) dd w
  have hs : ∀ x y, (Op.equalIn (dd + 1) 9 (.string x) (.string y)).run Try.prog w = .ok (decide (x = y)) w := fun x y => EqIs.str dd w
  generalize hdd : dd + 1 = d1 at hn hs
  have : dd + 2 = d1 + 1 := by omega
  rw [this]
  simp [Op.equalIn, Try.runUnderlying79, file_held, part, Try.isAgg3, Try.isAgg9, hn, hs]
  by_cases h1 : a.name = b.name <;> by_cases h2 : a.bytes = b.bytes <;> by_cases h3 : a.synced = b.synced <;> simp [h1, h2, h3, file_eq]
section
variable {E : Env} {L : List HP} {ty : TypeId}
theorem file_eq1 (w : World) (a b : FileD) : (Op.equal 79 (fileV a) (fileV b)).run Try.prog w = .ok (decide (a = b)) w := file_eq0 9998 w a b
theorem Y_eq_file {x y : Operand} {t' : TypeId} {a b : FileD} (hx : ev E x = some (fileV a)) (hy : ev E y = some (fileV b)) : Yl Try.prog E L (.binOp .eql 79 x y t') ty (.bool (decide (a = b))) := fun n D W ac w dst pos af g hv hs => by
  have h3 : ∀ xs ys : Array Value, Go.binOp .eql 79 (.agg xs) (.agg ys) = (do Pure.pure (Value.bool (← Op.equal 79 (.agg xs) (.agg ys))) : Sem Value) := fun xs ys => by simp only [Go.binOp]
  simp only [execOp, hv.ev hx, hv.ev hy, eqGuard, h3]
  simp [file_guard, file_eq1]
theorem Y_ne_file {x y : Operand} {t' : TypeId} {a b : FileD} (hx : ev E x = some (fileV a)) (hy : ev E y = some (fileV b)) : Yl Try.prog E L (.binOp .neq 79 x y t') ty (.bool (decide (a ≠ b))) := fun n D W ac w dst pos af g hv hs => by
  have h3 : ∀ xs ys : Array Value, Go.binOp .neq 79 (.agg xs) (.agg ys) = (do Pure.pure (Value.bool (!(← Op.equal 79 (.agg xs) (.agg ys)))) : Sem Value) := fun xs ys => by simp only [Go.binOp]
  simp only [execOp, hv.ev hx, hv.ev hy, eqGuard, h3]
  simp [file_guard, file_eq1]
end
abbrev nmA : ByteArray := ⟨#[97]⟩
theorem nmA_ok : isName nmA := by decide +kernel
theorem kz_1 (k : Nat) : appendK (dkNew 9) nmA [120, 121] k = (⟨9, -1, [⟨nmA, k, [120, 121], 0⟩]⟩, 0) := by
  unfold appendK
  rw [if_neg (Classical.not_not.2 nmA_ok), if_neg (by decide), if_neg (by simp [leftK, dkNew, totF])]
  rfl
theorem kz_2 (k : Nat) : syncK ⟨9, -1, [⟨nmA, k, [120, 121], 0⟩]⟩ nmA = (⟨9, -1, [⟨nmA, k, [120, 121], 2⟩]⟩, 0) := by rfl
theorem kz_3 (k k2 : Nat) : appendK ⟨9, -1, [⟨nmA, k, [120, 121], 2⟩]⟩ nmA [122, 122] k2 = (⟨9, -1, [⟨nmA, k, [120, 121, 122, 122], 2⟩]⟩, 0) := by
  unfold appendK
  rw [if_neg (Classical.not_not.2 nmA_ok), if_neg (by simp [offK]), if_neg (by simp [leftK, totF, findF])]
  rfl
abbrev kz3 (k : Nat) : DkS := ⟨9, -1, [⟨nmA, k, [120, 121, 122, 122], 2⟩]⟩
abbrev kpA : List TornD := [(nmA, 1)]
theorem kz_c (k : Nat) : crashOk (kz3 k) kpA := ⟨by simp, fun t ht => by simp at ht; subst ht; exact ⟨_, rfl, by decide, by show (1 : Int) ≤ 4 - 2; decide⟩⟩
theorem kz_4 (k : Nat) : crashK (kz3 k) kpA = ⟨9, -1, [⟨nmA, k, [120, 121, 122], 3⟩]⟩ := by rfl
theorem cells_two {k : IntKind} {a b : Int} (ha : intIn k a) (hb : intIn k b) : ∀ M, CellsOf M (intR k) [a, b] [.int k a, .int k b] := fun M => ⟨[.int k a], [.int k b], ⟨rfl, ha⟩, ⟨[.int k b], [], ⟨rfl, hb⟩, rfl, rfl⟩, rfl⟩
theorem lives03_spec (L : List HP) : Fn Try.prog 38 #[] L (fun v L' => v = .bool true ∧ L' = L) := by
  refine Fn_enter Try.func38 rfl rfl rfl rfl ?_
  refine T_region ?_
  refine TL_y rfl rfl (Y_assign rfl) ?_
  refine TL_nil ?_
  refine T_region ?_
  refine TL_call rfl rfl (diskNew_ok 9 (by decide) _) ?_
  rintro _ _ ⟨b8, bt8, rfl, rfl⟩
  refine TL_y rfl rfl (Y_move rfl) ?_
  refine TL_y rfl rfl (Y_extract rfl rfl) ?_
  refine TL_y rfl rfl (Y_extract rfl rfl) ?_
  refine TL_y rfl rfl (Y_assign rfl) ?_
  refine TL_y rfl rfl (Y_assign rfl) ?_
  refine TL_nil ?_
  refine T_seq ?_
  refine T_region ?_
  refine TL_y rfl rfl (Y_move rfl) ?_
  refine TL_y rfl rfl (Y_ne rfl rfl) ?_
  refine TL_name 12 (v' := .bool false) rfl (congrArg Value.bool (by decide)) ?_
  refine TL_y rfl rfl (Y_move rfl) ?_
  refine TL_grun rfl rfl ?_
  refine TL_y rfl rfl (Y_move rfl) ?_
  refine TL_grun rfl rfl ?_
  refine TL_y rfl rfl (Y_equal rfl rfl (EqIs.ptr_nil)) ?_
  refine TL_name 15 (v' := .bool false) rfl (by simp) ?_
  refine TL_y rfl rfl (Y_pick_f rfl rfl) ?_
  refine TL_y rfl rfl (Y_move rfl) ?_
  refine TL_grun rfl rfl ?_
  refine TL_y rfl rfl (Y_move rfl) ?_
  refine TL_grun rfl rfl ?_
  refine TL_build_slice rfl rfl rfl rfl rfl rfl ?_
  intro b19
  refine TL_grun rfl rfl ?_
  refine TL_conv_mark (b := b19) (vs := [.int .u8 120, .int .u8 121]) (xs := [120, 121]) rfl rfl (cells_two (by decide) (by decide)) (by decide) (by decide) ?_
  refine TL_grun rfl rfl ?_
  refine TL_pullk b8 ?_
  refine TL_call rfl rfl (diskAppend_spec nmA (by decide) sln (by decide) (by decide)) ?_
  rintro _ _ ⟨k1, rfl, rfl⟩
  rw [kz_1]
  refine TL_grun rfl rfl ?_
  refine TL_y rfl rfl (Y_ne rfl rfl) ?_
  refine TL_name 22 (v' := .bool false) rfl (congrArg Value.bool (by simp)) ?_
  refine TL_y rfl rfl (Y_pick_f rfl rfl) ?_
  refine TL_y rfl rfl (Y_move rfl) ?_
  refine TL_grun rfl rfl ?_
  refine TL_y rfl rfl (Y_move rfl) ?_
  refine TL_grun rfl rfl ?_
  refine TL_pullk b8 ?_
  refine TL_call rfl rfl (diskSync_spec nmA (by decide)) ?_
  rintro _ _ ⟨rfl, rfl⟩
  rw [kz_2]
  refine TL_grun rfl rfl ?_
  refine TL_y rfl rfl (Y_ne rfl rfl) ?_
  refine TL_name 27 (v' := .bool false) rfl (congrArg Value.bool (by simp)) ?_
  refine TL_y rfl rfl (Y_pick_f rfl rfl) ?_
  refine TL_y rfl rfl (Y_move rfl) ?_
  refine TL_grun rfl rfl ?_
  refine TL_y rfl rfl (Y_move rfl) ?_
  refine TL_grun rfl rfl ?_
  refine TL_build_slice rfl rfl rfl rfl rfl rfl ?_
  intro b31
  refine TL_grun rfl rfl ?_
  refine TL_conv_mark (b := b31) (vs := [.int .u8 122, .int .u8 122]) (xs := [122, 122]) rfl rfl (cells_two (by decide) (by decide)) (by decide) (by decide) ?_
  refine TL_grun rfl rfl ?_
  refine TL_pullk b8 ?_
  refine TL_call rfl rfl (diskAppend_spec nmA (by decide) (sln (A := some ⟨b31, 0, none⟩) (c := 2) (xs := ([122, 122] : List Int))) (by decide) (by decide)) ?_
  rintro _ _ ⟨k2, rfl, rfl⟩
  rw [kz_3]
  refine TL_grun rfl rfl ?_
  refine TL_y rfl rfl (Y_ne rfl rfl) ?_
  refine TL_name 34 (v' := .bool false) rfl (congrArg Value.bool (by simp)) ?_
  refine TL_y rfl rfl (Y_pick_f rfl rfl) ?_
  refine TL_nil ?_
  refine T_cond_false rfl ?_
  refine T_skip ?_
  refine thenS_normal ?_
  refine T_region ?_
  refine TL_y rfl rfl (Y_move rfl) ?_
  refine TL_pullk b8 ?_
  refine TL_call rfl rfl (diskFiles_spec (s := kz3 k1)) ?_
  rintro _ _ ⟨A37, c37, rfl, rfl⟩
  refine TL_freeze_osl ?_
  rw [show (kz3 k1).l.map viewF = [⟨nmA, ⟨#[120, 121, 122, 122]⟩, 2⟩] from rfl]
  refine TL_y rfl rfl (Y_assign rfl) ?_
  refine TL_nil ?_
  refine T_region ?_
  refine TL_y rfl rfl (Y_move rfl) ?_
  refine TL_y rfl rfl (Y_build rfl rfl) ?_
  refine TL_build_slice rfl rfl rfl rfl rfl rfl ?_
  intro b40
  refine TL_osl (k := 1) tornR [((nmA, 1) : TornD)] (Knows.const fun M => ⟨tornC (nmA, 1), [], ⟨rfl, by decide, by decide⟩, rfl, rfl⟩) rfl (by decide) ?_
  refine TL_freeze_osl ?_
  refine TL_name 40 (v' := .slice (some ⟨b40, 0, none⟩) kpA.length 1) rfl rfl ?_
  refine TL_pullk b8 ?_
  refine TL_call rfl rfl (diskCrash_spec (s := kz3 k1) (keep := kpA) sln) ?_
  rintro _ _ ⟨rfl, rfl⟩
  rw [if_pos (kz_c k1), if_pos (kz_c k1), kz_4]
  refine TL_y rfl rfl (Y_assign rfl) ?_
  refine TL_nil ?_
  refine T_region ?_
  refine TL_y rfl rfl (Y_move rfl) ?_
  refine TL_pullk b8 ?_
  refine TL_call rfl rfl (diskRead_spec nmA (by decide)) ?_
  rintro _ _ ⟨rfl, rfl⟩
  rw [show findF (⟨9, -1, [⟨nmA, k1, [120, 121, 122], 3⟩]⟩ : DkS).l nmA = some ⟨nmA, k1, [120, 121, 122], 3⟩ from rfl]
  refine TL_y rfl rfl (Y_move rfl) ?_
  refine TL_y rfl rfl (Y_extract rfl rfl) ?_
  refine TL_y rfl rfl (Y_extract rfl rfl) ?_
  refine TL_y rfl rfl (Y_assign rfl) ?_
  refine TL_y rfl rfl (Y_assign rfl) ?_
  refine TL_nil ?_
  refine T_addr_n (sln (A := A37) (c := c37) (R := fileR) (xs := [⟨nmA, ⟨#[120, 121, 122, 122]⟩, 2⟩])) (j := 0) rfl fun bq oq eq => ?_
  subst eq
  refine T_region ?_
  refine TL_y rfl rfl (Y_move rfl) ?_
  refine TL_y rfl rfl (Y_len rfl) ?_
  refine TL_y rfl rfl (Y_eq rfl rfl) ?_
  refine TL_name 49 (v' := .bool true) rfl (by simp) ?_
  refine TL_y rfl rfl (Y_move rfl) ?_
  refine TL_grun rfl rfl ?_
  refine TL_y rfl rfl (Y_move rfl) ?_
  refine TL_grun rfl rfl ?_
  refine TL_y rfl rfl (Y_index_n (R := fileR) (xs := [⟨nmA, ⟨#[120, 121, 122, 122]⟩, 2⟩]) rfl rfl rfl rfl) ?_
  refine TL_grun rfl rfl ?_
  refine TL_y rfl rfl (Y_load_naf (R := fileR) (c := c37) (xs := [⟨nmA, ⟨#[120, 121, 122, 122]⟩, 2⟩]) (q := 0) (vs := fileC ⟨nmA, ⟨#[120, 121, 122, 122]⟩, 2⟩) rfl sln rfl rfl) ?_
  refine TL_grun rfl rfl ?_
  refine TL_y rfl rfl (Y_build rfl rfl) ?_
  refine TL_name 54 (v' := fileV ⟨nmA, ⟨#[120, 121, 122, 122]⟩, 2⟩) rfl (rfl) ?_
  refine TL_grun rfl rfl ?_
  refine TL_y rfl rfl (Y_eq_file rfl rfl) ?_
  refine TL_name 55 (v' := .bool true) rfl (congrArg Value.bool (decide_eq_true rfl)) ?_
  refine TL_y rfl rfl (Y_pick_t rfl rfl) ?_
  refine TL_y rfl rfl (Y_move rfl) ?_
  refine TL_grun rfl rfl ?_
  refine TL_y rfl rfl (Y_move rfl) ?_
  refine TL_grun rfl rfl ?_
  refine TL_y rfl rfl (Y_eq rfl rfl) ?_
  refine TL_name 59 (v' := .bool true) rfl (by simp) ?_
  refine TL_y rfl rfl (Y_pick_t rfl rfl) ?_
  refine TL_y rfl rfl (Y_move rfl) ?_
  refine TL_grun rfl rfl ?_
  refine TL_y rfl rfl (Y_move rfl) ?_
  refine TL_grun rfl rfl ?_
  refine TL_y rfl rfl (Y_str_eq rfl rfl) ?_
  refine TL_name 63 (v' := .bool true) rfl (congrArg Value.bool (decide_eq_true rfl)) ?_
  refine TL_y rfl rfl (Y_pick_t rfl rfl) ?_
  refine TL_y rfl rfl (Y_move rfl) ?_
  refine TL_grun rfl rfl ?_
  refine TL_y rfl rfl (Y_move rfl) ?_
  refine TL_grun rfl rfl ?_
  refine TL_y rfl rfl (Y_eq rfl rfl) ?_
  refine TL_name 67 (v' := .bool true) rfl (by simp) ?_
  refine TL_y rfl rfl (Y_pick_t rfl rfl) ?_
  refine TL_y rfl rfl (Y_move rfl) ?_
  refine TL_grun rfl rfl ?_
  refine TL_y rfl rfl (Y_move rfl) ?_
  refine TL_grun rfl rfl ?_
  refine TL_pullk b8 ?_
  refine TL_call rfl rfl (diskLeft_spec) ?_
  rintro _ _ ⟨rfl, rfl⟩
  refine TL_grun rfl rfl ?_
  refine TL_y rfl rfl (Y_eq rfl rfl) ?_
  refine TL_name 72 (v' := .bool true) rfl (congrArg Value.bool (decide_eq_true rfl)) ?_
  refine TL_y rfl rfl (Y_pick_t rfl rfl) ?_
  refine TL_y rfl rfl (Y_assign rfl) ?_
  refine TL_nil ?_
  refine T_ret ?_
  exact RetG_1 (.inl rfl) rfl (ResV.tmp rfl) GivesTo.g (⟨rfl, rfl⟩)
end Go.SL
