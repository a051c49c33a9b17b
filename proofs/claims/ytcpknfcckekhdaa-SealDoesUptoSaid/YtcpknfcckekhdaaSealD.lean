/- Seal: what must come of every program; laws on the machine alone. -/
import Derived.Test.YtcpknfcckekhdaaSealC
import Derived.Test.YtcpknfcckekhdaaSame
set_option linter.unusedVariables false
set_option linter.unusedSimpArgs false
namespace Go.SL
open Go Go.Proofs
def oneE (t c : ByteArray) (n : Int) : EntryD := ⟨false, ⟨t, c, n, []⟩⟩
theorem one_spec (L : List HP) (t c : ByteArray) (n : Int) : Fn Try.prog 31 #[.string t, .string c, .int .i64 n] L (fun v L' => v = entryV (oneE t c n) (none, 0) ∧ L' = L) := by
  refine Fn_enter Try.func31 rfl rfl rfl rfl ?_
  refine T_region ?_
  refine TL_alloc rfl rfl ?_
  intro b6
  refine TL_nil ?_
  refine T_region ?_
  refine TL_y rfl rfl (Y_move rfl) ?_
  refine TL_y rfl rfl (Y_move rfl) ?_
  refine TL_y rfl rfl (Y_move rfl) ?_
  refine TL_y rfl rfl (Y_build rfl rfl) ?_
  refine TL_y rfl rfl (Y_build rfl rfl) ?_
  refine TL_store rfl rfl rfl rfl rfl rfl ?_
  refine TL_nil ?_
  refine T_ret ?_
  exact RetG_1 (.inl rfl) rfl (ResV.agg rfl rfl) GivesTo.g (⟨rfl, rfl⟩)
abbrev ls0 : SM := ⟨[], 0⟩
abbrev le1 : EntryD := oneE ⟨#[116]⟩ ⟨#[99]⟩ 0
abbrev le2 : EntryD := oneE ⟨#[117]⟩ ⟨#[99]⟩ 0
abbrev le3 : EntryD := oneE ⟨#[116]⟩ ⟨#[100]⟩ 7
abbrev le4 : EntryD := oneE ⟨#[117]⟩ ⟨#[99]⟩ 1
abbrev ls1 : SM := ⟨[⟨1, le1.order⟩], 1⟩
abbrev ls2 : SM := ⟨[⟨1, le1.order⟩], 2⟩
abbrev ls3 : SM := ⟨[⟨1, le1.order⟩], 3⟩
abbrev ls4 : SM := ⟨[⟨1, le1.order⟩, ⟨2, le4.order⟩], 4⟩
theorem ld1 : doS ls0 le1 = (ls1, ⟨1, le1.order⟩, true, 0) := rfl
theorem ld2 : doS ls1 le2 = (ls2, ord0, false, 190) := rfl
theorem ld3 : doS ls2 le3 = (ls3, ⟨1, le1.order⟩, false, 0) := rfl
theorem ld4 : doS ls3 le4 = (ls4, ⟨2, le4.order⟩, true, 0) := rfl
theorem lok (e : EntryD) (h : e.order.token.size ≤ 1 ∧ e.order.cart.size ≤ 1 ∧ intIn .i64 e.order.epoch ∧ e.order.cut = []) : orderOk' e.order ∧ cSeal e.order ≤ 140737488355000 := by
  obtain ⟨h1, h2, h3, h4⟩ := h
  refine ⟨⟨by simp only [maxEl]; omega, by simp only [maxEl]; omega, h3, by rw [h4]; simp⟩, by unfold cSeal; rw [h4]; simp; omega⟩
theorem lo1 : orderOk' le1.order ∧ cSeal le1.order ≤ 140737488355000 := lok le1 (by decide)
theorem lo2 : orderOk' le2.order ∧ cSeal le2.order ≤ 140737488355000 := lok le2 (by decide)
theorem lo3 : orderOk' le3.order ∧ cSeal le3.order ≤ 140737488355000 := lok le3 (by decide)
theorem lo4 : orderOk' le4.order ∧ cSeal le4.order ≤ 140737488355000 := lok le4 (by decide)
theorem lives19_spec (L : List HP) : Fn Try.prog 18 #[] L (fun v L' => v = .bool true ∧ L' = L) := by
  refine Fn_enter Try.func18 rfl rfl rfl rfl ?_
  refine T_region ?_
  refine TL_y rfl rfl (Y_assign rfl) ?_
  refine TL_nil ?_
  refine T_region ?_
  refine TL_call rfl rfl (sealNew_spec _) ?_
  rintro _ _ ⟨b1, rfl, rfl⟩
  refine TL_y rfl rfl (Y_assign rfl) ?_
  refine TL_nil ?_
  refine T_seq ?_
  refine T_region ?_
  refine TL_y rfl rfl (Y_move rfl) ?_
  refine TL_y rfl rfl (Y_equal rfl rfl (EqIs.ptr_nil)) ?_
  refine TL_name 16 (v' := .bool false) rfl (by simp) ?_
  refine TL_nil ?_
  refine T_cond_false rfl ?_
  refine T_skip ?_
  refine thenS_normal ?_
  refine T_region ?_
  refine TL_y rfl rfl (Y_move rfl) ?_
  refine TL_call rfl rfl (one_spec _ _ _ _) ?_
  rintro _ _ ⟨rfl, rfl⟩
  refine TL_pullk b1 ?_
  refine TL_call rfl rfl (sealDo_spec le1 lo1.1 slnil lo1.2 (by decide)) ?_
  rintro _ _ ⟨A20, c20, rfl, rfl⟩
  simp only [ld1]
  refine TL_y rfl rfl (Y_move rfl) ?_
  refine TL_y rfl rfl (Y_extract rfl rfl) ?_
  refine TL_y rfl rfl (Y_extract rfl rfl) ?_
  refine TL_y rfl rfl (Y_extract rfl rfl) ?_
  refine TL_alloc rfl rfl ?_
  intro b2
  refine TL_store rfl rfl rfl rfl rfl rfl ?_
  refine TL_y rfl rfl (Y_assign rfl) ?_
  refine TL_y rfl rfl (Y_assign rfl) ?_
  refine TL_nil ?_
  refine T_region ?_
  refine TL_y rfl rfl (Y_move rfl) ?_
  refine TL_call rfl rfl (one_spec _ _ _ _) ?_
  rintro _ _ ⟨rfl, rfl⟩
  refine TL_pullk b1 ?_
  refine TL_call rfl rfl (sealDo_spec le2 lo2.1 slnil lo2.2 (by decide)) ?_
  rintro _ _ ⟨A27, c27, rfl, rfl⟩
  simp only [ld2]
  refine TL_y rfl rfl (Y_move rfl) ?_
  refine TL_y rfl rfl (Y_extract rfl rfl) ?_
  refine TL_y rfl rfl (Y_extract rfl rfl) ?_
  refine TL_y rfl rfl (Y_extract rfl rfl) ?_
  refine TL_alloc rfl rfl ?_
  intro b5
  refine TL_store rfl rfl rfl rfl rfl rfl ?_
  refine TL_y rfl rfl (Y_assign rfl) ?_
  refine TL_y rfl rfl (Y_assign rfl) ?_
  refine TL_nil ?_
  refine T_region ?_
  refine TL_y rfl rfl (Y_move rfl) ?_
  refine TL_call rfl rfl (one_spec _ _ _ _) ?_
  rintro _ _ ⟨rfl, rfl⟩
  refine TL_pullk b1 ?_
  refine TL_call rfl rfl (sealDo_spec le3 lo3.1 slnil lo3.2 (by decide)) ?_
  rintro _ _ ⟨A34, c34, rfl, rfl⟩
  simp only [ld3]
  refine TL_y rfl rfl (Y_move rfl) ?_
  refine TL_y rfl rfl (Y_extract rfl rfl) ?_
  refine TL_y rfl rfl (Y_extract rfl rfl) ?_
  refine TL_y rfl rfl (Y_extract rfl rfl) ?_
  refine TL_alloc rfl rfl ?_
  intro b8
  refine TL_store rfl rfl rfl rfl rfl rfl ?_
  refine TL_y rfl rfl (Y_assign rfl) ?_
  refine TL_y rfl rfl (Y_assign rfl) ?_
  refine TL_nil ?_
  refine T_region ?_
  refine TL_y rfl rfl (Y_move rfl) ?_
  refine TL_call rfl rfl (one_spec _ _ _ _) ?_
  rintro _ _ ⟨rfl, rfl⟩
  refine TL_pullk b1 ?_
  refine TL_call rfl rfl (sealDo_spec le4 lo4.1 slnil lo4.2 (by decide)) ?_
  rintro _ _ ⟨A41, c41, rfl, rfl⟩
  simp only [ld4]
  refine TL_y rfl rfl (Y_move rfl) ?_
  refine TL_y rfl rfl (Y_extract rfl rfl) ?_
  refine TL_y rfl rfl (Y_extract rfl rfl) ?_
  refine TL_y rfl rfl (Y_extract rfl rfl) ?_
  refine TL_alloc rfl rfl ?_
  intro b11
  refine TL_store rfl rfl rfl rfl rfl rfl ?_
  refine TL_y rfl rfl (Y_assign rfl) ?_
  refine TL_y rfl rfl (Y_assign rfl) ?_
  refine TL_nil ?_
  refine T_region ?_
  refine TL_y rfl rfl (Y_field_addr rfl) ?_
  refine TL_y rfl rfl (Y_load rfl rfl) ?_
  refine TL_y rfl rfl (Y_eq rfl rfl) ?_
  refine TL_name 47 (v' := .bool true) rfl (by simp) ?_
  refine TL_y rfl rfl (Y_move rfl) ?_
  refine TL_grun rfl rfl ?_
  refine TL_y rfl rfl (Y_move rfl) ?_
  refine TL_y rfl rfl (Y_pick_t rfl rfl) ?_
  refine TL_name 50 (v' := .bool true) rfl (rfl) ?_
  refine TL_y rfl rfl (Y_move rfl) ?_
  refine TL_grun rfl rfl ?_
  refine TL_y rfl rfl (Y_move rfl) ?_
  refine TL_grun rfl rfl ?_
  refine TL_y rfl rfl (Y_eq rfl rfl) ?_
  refine TL_name 53 (v' := .bool true) rfl (by simp) ?_
  refine TL_y rfl rfl (Y_pick_t rfl rfl) ?_
  refine TL_y rfl rfl (Y_move rfl) ?_
  refine TL_grun rfl rfl ?_
  refine TL_y rfl rfl (Y_move rfl) ?_
  refine TL_grun rfl rfl ?_
  refine TL_y rfl rfl (Y_not rfl) ?_
  refine TL_name 57 (v' := .bool true) rfl (rfl) ?_
  refine TL_y rfl rfl (Y_pick_t rfl rfl) ?_
  refine TL_y rfl rfl (Y_move rfl) ?_
  refine TL_grun rfl rfl ?_
  refine TL_y rfl rfl (Y_move rfl) ?_
  refine TL_grun rfl rfl ?_
  refine TL_y rfl rfl (Y_eq rfl rfl) ?_
  refine TL_name 61 (v' := .bool true) rfl (by simp) ?_
  refine TL_y rfl rfl (Y_pick_t rfl rfl) ?_
  refine TL_y rfl rfl (Y_move rfl) ?_
  refine TL_grun rfl rfl ?_
  refine TL_y rfl rfl (Y_field_addr rfl) ?_
  refine TL_grun rfl rfl ?_
  refine TL_y rfl rfl (Y_load rfl rfl) ?_
  refine TL_grun rfl rfl ?_
  refine TL_y rfl rfl (Y_eq rfl rfl) ?_
  refine TL_name 66 (v' := .bool true) rfl (by simp) ?_
  refine TL_y rfl rfl (Y_pick_t rfl rfl) ?_
  refine TL_y rfl rfl (Y_move rfl) ?_
  refine TL_grun rfl rfl ?_
  refine TL_y rfl rfl (Y_move rfl) ?_
  refine TL_grun rfl rfl ?_
  refine TL_y rfl rfl (Y_not rfl) ?_
  refine TL_name 70 (v' := .bool true) rfl (rfl) ?_
  refine TL_y rfl rfl (Y_pick_t rfl rfl) ?_
  refine TL_y rfl rfl (Y_move rfl) ?_
  refine TL_grun rfl rfl ?_
  refine TL_y rfl rfl (Y_move rfl) ?_
  refine TL_grun rfl rfl ?_
  refine TL_y rfl rfl (Y_eq rfl rfl) ?_
  refine TL_name 74 (v' := .bool true) rfl (by simp) ?_
  refine TL_y rfl rfl (Y_pick_t rfl rfl) ?_
  refine TL_y rfl rfl (Y_move rfl) ?_
  refine TL_grun rfl rfl ?_
  refine TL_y rfl rfl (Y_field_addr rfl) ?_
  refine TL_grun rfl rfl ?_
  refine TL_y rfl rfl (Y_load rfl rfl) ?_
  refine TL_grun rfl rfl ?_
  refine TL_y rfl rfl (Y_eq rfl rfl) ?_
  refine TL_name 79 (v' := .bool true) rfl (by simp) ?_
  refine TL_y rfl rfl (Y_pick_t rfl rfl) ?_
  refine TL_y rfl rfl (Y_move rfl) ?_
  refine TL_grun rfl rfl ?_
  refine TL_y rfl rfl (Y_move rfl) ?_
  refine TL_y rfl rfl (Y_pick_t rfl rfl) ?_
  refine TL_name 83 (v' := .bool true) rfl (rfl) ?_
  refine TL_y rfl rfl (Y_move rfl) ?_
  refine TL_grun rfl rfl ?_
  refine TL_y rfl rfl (Y_move rfl) ?_
  refine TL_grun rfl rfl ?_
  refine TL_y rfl rfl (Y_eq rfl rfl) ?_
  refine TL_name 86 (v' := .bool true) rfl (by simp) ?_
  refine TL_y rfl rfl (Y_pick_t rfl rfl) ?_
  refine TL_y rfl rfl (Y_move rfl) ?_
  refine TL_grun rfl rfl ?_
  refine TL_y rfl rfl (Y_move rfl) ?_
  refine TL_grun rfl rfl ?_
  refine TL_pullk b1 ?_
  refine TL_call rfl rfl (sealDone_spec) ?_
  rintro _ _ ⟨rfl, rfl⟩
  refine TL_grun rfl rfl ?_
  refine TL_y rfl rfl (Y_eq rfl rfl) ?_
  refine TL_name 91 (v' := .bool true) rfl (by simp) ?_
  refine TL_y rfl rfl (Y_pick_t rfl rfl) ?_
  refine TL_y rfl rfl (Y_move rfl) ?_
  refine TL_grun rfl rfl ?_
  refine TL_y rfl rfl (Y_move rfl) ?_
  refine TL_grun rfl rfl ?_
  refine TL_pullk b1 ?_
  refine TL_call rfl rfl (sealEpoch_spec ⟨#[99]⟩ (by decide)) ?_
  rintro _ _ ⟨rfl, rfl⟩
  refine TL_grun rfl rfl ?_
  refine TL_y rfl rfl (Y_eq rfl rfl) ?_
  refine TL_name 96 (v' := .bool true) rfl (congrArg Value.bool (by decide)) ?_
  refine TL_y rfl rfl (Y_pick_t rfl rfl) ?_
  refine TL_y rfl rfl (Y_assign rfl) ?_
  refine TL_nil ?_
  refine T_ret ?_
  exact RetG_1 (.inl rfl) rfl (ResV.tmp rfl) GivesTo.g (⟨rfl, rfl⟩)
theorem sealNobody_walk {L : List HP} {A : Option Addr} {c : Nat} (e : EntryD) (t : ByteArray) : Fn Try.prog 7 #[entryV e (A, c), .string t] L (fun v L' => v = .bool true ∧ L' = L) := by
  refine Fn_enter Try.func7 rfl rfl rfl rfl ?_
  refine T_region ?_
  refine TL_box rfl rfl rfl ?_
  intro b2
  refine TL_y rfl rfl (Y_assign rfl) ?_
  refine TL_nil ?_
  refine T_region ?_
  refine TL_y rfl rfl (Y_assign rfl) ?_
  refine TL_nil ?_
  refine T_region ?_
  refine TL_y rfl rfl (Y_move rfl) ?_
  refine TL_y rfl rfl (Y_load_agg rfl rfl) ?_
  refine TL_call rfl rfl (sealDo_nil e) ?_
  rintro _ _ ⟨rfl, rfl⟩
  refine TL_y rfl rfl (Y_move rfl) ?_
  refine TL_y rfl rfl (Y_extract rfl rfl) ?_
  refine TL_y rfl rfl (Y_extract rfl rfl) ?_
  refine TL_y rfl rfl (Y_extract rfl rfl) ?_
  refine TL_alloc rfl rfl ?_
  intro b6
  refine TL_store rfl rfl rfl rfl rfl rfl ?_
  refine TL_y rfl rfl (Y_assign rfl) ?_
  refine TL_y rfl rfl (Y_assign rfl) ?_
  refine TL_nil ?_
  refine T_region ?_
  refine TL_y rfl rfl (Y_move rfl) ?_
  refine TL_y rfl rfl (Y_move rfl) ?_
  refine TL_call rfl rfl (sealToken_nil _ t) ?_
  rintro _ _ ⟨rfl, rfl⟩
  refine TL_y rfl rfl (Y_move rfl) ?_
  refine TL_y rfl rfl (Y_extract rfl rfl) ?_
  refine TL_y rfl rfl (Y_extract rfl rfl) ?_
  refine TL_alloc rfl rfl ?_
  intro b9
  refine TL_store rfl rfl rfl rfl rfl rfl ?_
  refine TL_y rfl rfl (Y_assign rfl) ?_
  refine TL_nil ?_
  refine T_region ?_
  refine TL_y rfl rfl (Y_move rfl) ?_
  refine TL_call rfl rfl (sealGet_nil _ 1) ?_
  rintro _ _ ⟨rfl, rfl⟩
  refine TL_y rfl rfl (Y_move rfl) ?_
  refine TL_y rfl rfl (Y_extract rfl rfl) ?_
  refine TL_y rfl rfl (Y_extract rfl rfl) ?_
  refine TL_alloc rfl rfl ?_
  intro b11
  refine TL_store rfl rfl rfl rfl rfl rfl ?_
  refine TL_y rfl rfl (Y_assign rfl) ?_
  refine TL_nil ?_
  refine T_region ?_
  refine TL_call rfl rfl (lives19_spec _) ?_
  rintro _ _ ⟨rfl, rfl⟩
  refine TL_name 31 (v' := .bool true) rfl (rfl) ?_
  refine TL_y rfl rfl (Y_move rfl) ?_
  refine TL_grun rfl rfl ?_
  refine TL_y rfl rfl (Y_load_agg rfl rfl) ?_
  refine TL_grun rfl rfl ?_
  refine TL_y rfl rfl (Y_build rfl rfl) ?_
  refine TL_grun rfl rfl ?_
  refine TL_call rfl rfl (sameOrder_spec ord0 ord0 (A := none) (B := none) (c := 0) (d := 0) SlN.nil SlN.nil) ?_
  rintro _ _ ⟨rfl, rfl⟩
  refine TL_name 35 (v' := .bool true) rfl (by simp) ?_
  refine TL_y rfl rfl (Y_pick_t rfl rfl) ?_
  refine TL_y rfl rfl (Y_move rfl) ?_
  refine TL_grun rfl rfl ?_
  refine TL_y rfl rfl (Y_move rfl) ?_
  refine TL_name 38 (v' := .bool false) rfl (rfl) ?_
  refine TL_grun rfl rfl ?_
  refine TL_y rfl rfl (Y_not_f rfl) ?_
  refine TL_y rfl rfl (Y_pick_t rfl rfl) ?_
  refine TL_y rfl rfl (Y_move rfl) ?_
  refine TL_grun rfl rfl ?_
  refine TL_y rfl rfl (Y_move rfl) ?_
  refine TL_grun rfl rfl ?_
  refine TL_y rfl rfl (Y_eq rfl rfl) ?_
  refine TL_name 43 (v' := .bool true) rfl (by simp) ?_
  refine TL_y rfl rfl (Y_pick_t rfl rfl) ?_
  refine TL_y rfl rfl (Y_move rfl) ?_
  refine TL_grun rfl rfl ?_
  refine TL_y rfl rfl (Y_move rfl) ?_
  refine TL_grun rfl rfl ?_
  refine TL_call rfl rfl (sealDone_nil _) ?_
  rintro _ _ ⟨rfl, rfl⟩
  refine TL_grun rfl rfl ?_
  refine TL_y rfl rfl (Y_eq rfl rfl) ?_
  refine TL_name 48 (v' := .bool true) rfl (by simp) ?_
  refine TL_y rfl rfl (Y_pick_t rfl rfl) ?_
  refine TL_y rfl rfl (Y_move rfl) ?_
  refine TL_grun rfl rfl ?_
  refine TL_y rfl rfl (Y_move rfl) ?_
  refine TL_grun rfl rfl ?_
  refine TL_y rfl rfl (Y_move rfl) ?_
  refine TL_grun rfl rfl ?_
  refine TL_call rfl rfl (sealEpoch_nil _ t) ?_
  rintro _ _ ⟨rfl, rfl⟩
  refine TL_grun rfl rfl ?_
  refine TL_y rfl rfl (Y_eq rfl rfl) ?_
  refine TL_name 54 (v' := .bool true) rfl (by simp) ?_
  refine TL_y rfl rfl (Y_pick_t rfl rfl) ?_
  refine TL_y rfl rfl (Y_move rfl) ?_
  refine TL_grun rfl rfl ?_
  refine TL_y rfl rfl (Y_move rfl) ?_
  refine TL_name 57 (v' := .bool false) rfl (rfl) ?_
  refine TL_grun rfl rfl ?_
  refine TL_y rfl rfl (Y_not_f rfl) ?_
  refine TL_y rfl rfl (Y_pick_t rfl rfl) ?_
  refine TL_y rfl rfl (Y_move rfl) ?_
  refine TL_grun rfl rfl ?_
  refine TL_y rfl rfl (Y_move rfl) ?_
  refine TL_name 61 (v' := .bool false) rfl (rfl) ?_
  refine TL_grun rfl rfl ?_
  refine TL_y rfl rfl (Y_not_f rfl) ?_
  refine TL_y rfl rfl (Y_pick_t rfl rfl) ?_
  refine TL_y rfl rfl (Y_move rfl) ?_
  refine TL_grun rfl rfl ?_
  refine TL_y rfl rfl (Y_move rfl) ?_
  refine TL_grun rfl rfl ?_
  refine TL_call rfl rfl (sealOrders_nil _) ?_
  rintro _ _ ⟨rfl, rfl⟩
  refine TL_grun rfl rfl ?_
  refine TL_y rfl rfl (Y_len rfl) ?_
  refine TL_grun rfl rfl ?_
  refine TL_y rfl rfl (Y_eq rfl rfl) ?_
  refine TL_name 68 (v' := .bool true) rfl (by simp) ?_
  refine TL_y rfl rfl (Y_pick_t rfl rfl) ?_
  refine TL_y rfl rfl (Y_move rfl) ?_
  refine TL_grun rfl rfl ?_
  refine TL_y rfl rfl (Y_move rfl) ?_
  refine TL_grun rfl rfl ?_
  refine TL_call rfl rfl (sealSeals_nil _) ?_
  rintro _ _ ⟨rfl, rfl⟩
  refine TL_grun rfl rfl ?_
  refine TL_y rfl rfl (Y_len rfl) ?_
  refine TL_grun rfl rfl ?_
  refine TL_y rfl rfl (Y_eq rfl rfl) ?_
  refine TL_name 74 (v' := .bool true) rfl (by simp) ?_
  refine TL_y rfl rfl (Y_pick_t rfl rfl) ?_
  refine TL_y rfl rfl (Y_move rfl) ?_
  refine TL_grun rfl rfl ?_
  refine TL_y rfl rfl (Y_move rfl) ?_
  refine TL_grun rfl rfl ?_
  refine TL_call rfl rfl (sealFork_nil _) ?_
  rintro _ _ ⟨rfl, rfl⟩
  refine TL_grun rfl rfl ?_
  refine TL_y rfl rfl (Y_equal rfl rfl (EqIs.ptr_nil)) ?_
  refine TL_name 79 (v' := .bool true) rfl (by simp) ?_
  refine TL_y rfl rfl (Y_pick_t rfl rfl) ?_
  refine TL_y rfl rfl (Y_assign rfl) ?_
  refine TL_nil ?_
  refine T_ret ?_
  exact RetG_1 (.inl rfl) rfl (ResV.tmp rfl) GivesTo.g (⟨rfl, rfl⟩)
end Go.SL
