/- The walk of the law on numbers' forms. -/
import Derived.Test.YtiiejjdkhekhmaaCodG
set_option linter.unusedVariables false
set_option linter.unusedSimpArgs false
namespace Go.SL
open Go Go.Proofs

theorem codecNumbers_walk {L : List HP} {A B : Option Addr} {c d : Nat} {ahead behind : List Int} (x : Nat) (hx : x < 18446744073709551616) (hk1 : SlK L (intR .u8) A c ahead) (hk2 : SlK L (intR .u8) B d behind) (h1 : ahead.length ≤ 140737488351232) (h2 : behind.length ≤ 140737488351232) :
    Fn Try.prog 3 #[.int .u64 (x : Int), .slice A ahead.length c, .slice B behind.length d] L (fun v L' => v = .bool true ∧ L' = L) := by
  have hg := grp_ten hx
  refine Fn_enter Try.func3 rfl rfl rfl rfl ?_
  refine T_fact hk1.all_int (fun _ h => h) fun ha1 => ?_
  refine T_fact hk2.all_int (fun _ h => h) fun ha2 => ?_
  refine T_gives hk1.lay ?_
  refine T_gives (SlK.lay hk2.tail) ?_
  refine T_region ?_
  refine TL_y rfl rfl (Y_assign rfl) ?_
  refine TL_nil ?_
  refine T_region ?_
  refine TL_build_slice rfl rfl rfl rfl rfl rfl ?_
  intro b13
  refine TL_osl (k := 0) (intR .u8) [] (Knows.const fun M => rfl) rfl (by decide) ?_
  refine TL_name 13 (v' := .slice (some ⟨b13, 0, none⟩) ([] : List Int).length 0) rfl rfl ?_
  refine TL_y rfl rfl (Y_move rfl) ?_
  refine TL_append rfl rfl rfl rfl rfl slk (by (try simp only [List.length_append, List.length_cons, List.length_nil]); omega) ?_
  intro A15 c15
  simp only [List.nil_append]
  refine TL_freeze_osl ?_
  refine TL_y rfl rfl (Y_assign rfl) ?_
  refine TL_nil ?_
  refine T_region ?_
  refine TL_y rfl rfl (Y_move rfl) ?_
  refine TL_y rfl rfl (Y_move rfl) ?_
  refine TL_call rfl rfl (uint_spec slk x hx (by omega)) ?_
  rintro _ _ ⟨A18, c18, rfl, rfl⟩
  refine TL_freeze_osl ?_
  refine TL_y rfl rfl (Y_assign rfl) ?_
  refine TL_nil ?_
  refine T_region ?_
  refine TL_build_slice rfl rfl rfl rfl rfl rfl ?_
  intro b19
  refine TL_osl (k := 0) (intR .u8) [] (Knows.const fun M => rfl) rfl (by decide) ?_
  refine TL_name 19 (v' := .slice (some ⟨b19, 0, none⟩) ([] : List Int).length 0) rfl rfl ?_
  refine TL_y rfl rfl (Y_move rfl) ?_
  refine TL_append rfl rfl rfl rfl rfl slk (by (try simp only [List.length_append, List.length_cons, List.length_nil]); omega) ?_
  intro A21 c21
  simp only [List.nil_append]
  refine TL_y rfl rfl (Y_move rfl) ?_
  refine TL_call rfl rfl (refUint_spec x hx _) ?_
  rintro _ _ ⟨A23, c23, rfl, rfl⟩
  refine TL_freeze_osl ?_
  refine TL_append rfl rfl rfl rfl rfl slk (by (try simp only [List.length_append, List.length_cons, List.length_nil]); omega) ?_
  intro A24 c24
  refine TL_freeze_osl ?_
  refine TL_y rfl rfl (Y_assign rfl) ?_
  refine TL_nil ?_
  refine T_seq ?_
  refine T_region ?_
  refine TL_call rfl rfl (lives01_spec _) ?_
  rintro _ _ ⟨rfl, rfl⟩
  refine TL_name 25 (v' := .bool true) rfl (rfl) ?_
  refine TL_y rfl rfl (Y_not_t rfl) ?_
  refine TL_y rfl rfl (Y_move rfl) ?_
  refine TL_grun rfl rfl ?_
  refine TL_y rfl rfl (Y_move rfl) ?_
  refine TL_grun rfl rfl ?_
  refine TL_y rfl rfl (Y_bytes_str rfl slk) ?_
  refine TL_grun rfl rfl ?_
  refine TL_y rfl rfl (Y_move rfl) ?_
  refine TL_grun rfl rfl ?_
  refine TL_y rfl rfl (Y_bytes_str rfl slk) ?_
  refine TL_grun rfl rfl ?_
  refine TL_y rfl rfl (Y_str_ne rfl rfl) ?_
  refine TL_name 32 (v' := .bool false) rfl (congrArg Value.bool (by simp)) ?_
  refine TL_y rfl rfl (Y_pick_f rfl rfl) ?_
  refine TL_y rfl rfl (Y_move rfl) ?_
  refine TL_grun rfl rfl ?_
  refine TL_y rfl rfl (Y_move rfl) ?_
  refine TL_grun rfl rfl ?_
  refine TL_y rfl rfl (Y_bytes_str rfl slk) ?_
  refine TL_grun rfl rfl ?_
  refine TL_y rfl rfl (Y_move rfl) ?_
  refine TL_grun rfl rfl ?_
  refine TL_y rfl rfl (Y_bytes_str rfl slk) ?_
  refine TL_grun rfl rfl ?_
  refine TL_y rfl rfl (Y_str_ne rfl rfl) ?_
  refine TL_name 39 (v' := .bool false) rfl (congrArg Value.bool (by simp)) ?_
  refine TL_y rfl rfl (Y_pick_f rfl rfl) ?_
  refine TL_nil ?_
  refine T_cond_false rfl ?_
  refine T_skip ?_
  refine thenS_normal ?_
  refine T_region ?_
  refine TL_build_slice rfl rfl rfl rfl rfl rfl ?_
  intro b42
  refine TL_osl (k := 0) (intR .u8) [] (Knows.const fun M => rfl) rfl (by decide) ?_
  refine TL_name 42 (v' := .slice (some ⟨b42, 0, none⟩) ([] : List Int).length 0) rfl rfl ?_
  refine TL_y rfl rfl (Y_move rfl) ?_
  refine TL_y rfl rfl (Y_move rfl) ?_
  refine TL_y rfl rfl (Y_len rfl) ?_
  refine TL_y rfl rfl (Y_cut_l rfl rfl (by simp; omega)) ?_
  refine TL_name 46 (v' := .slice (cutA A18 ahead.length c18 1) (grp x).length (c18 - ahead.length)) rfl (by simp) ?_
  refine TL_append rfl rfl rfl rfl rfl (SlK.drop_app (xs := ahead) slk rfl) (by (try simp only [List.length_append, List.length_cons, List.length_nil]); omega) ?_
  intro A47 c47
  simp only [List.nil_append]
  refine TL_y rfl rfl (Y_move rfl) ?_
  refine TL_append rfl rfl rfl rfl rfl slk (by (try simp only [List.length_append, List.length_cons, List.length_nil]); omega) ?_
  intro A49 c49
  refine TL_freeze_osl ?_
  refine TL_call rfl rfl (readUint_spec slk) ?_
  rintro _ _ ⟨⟨y, n, e, rfl, hr⟩, rfl⟩
  obtain ⟨rfl, rfl, rfl⟩ : y = x ∧ n = (grp x).length ∧ e = 0 := rdU_unique hr (rdU_of_grp hx behind)
  refine TL_y rfl rfl (Y_move rfl) ?_
  refine TL_y rfl rfl (Y_extract rfl rfl) ?_
  refine TL_y rfl rfl (Y_extract rfl rfl) ?_
  refine TL_y rfl rfl (Y_extract rfl rfl) ?_
  refine TL_y rfl rfl (Y_assign rfl) ?_
  refine TL_y rfl rfl (Y_assign rfl) ?_
  refine TL_y rfl rfl (Y_assign rfl) ?_
  refine TL_nil ?_
  refine T_region ?_
  refine TL_y rfl rfl (Y_move rfl) ?_
  refine TL_y rfl rfl (Y_eq rfl rfl) ?_
  refine TL_name 55 (v' := .bool true) rfl (congrArg Value.bool (by decide)) ?_
  refine TL_y rfl rfl (Y_move rfl) ?_
  refine TL_grun rfl rfl ?_
  refine TL_y rfl rfl (Y_move rfl) ?_
  refine TL_grun rfl rfl ?_
  refine TL_y rfl rfl (Y_move rfl) ?_
  refine TL_grun rfl rfl ?_
  refine TL_y rfl rfl (Y_eq rfl rfl) ?_
  refine TL_name 59 (v' := .bool true) rfl (congrArg Value.bool (by simp)) ?_
  refine TL_y rfl rfl (Y_pick_t rfl rfl) ?_
  refine TL_y rfl rfl (Y_move rfl) ?_
  refine TL_grun rfl rfl ?_
  refine TL_y rfl rfl (Y_move rfl) ?_
  refine TL_grun rfl rfl ?_
  refine TL_y rfl rfl (Y_move rfl) ?_
  refine TL_grun rfl rfl ?_
  refine TL_y rfl rfl (Y_len rfl) ?_
  refine TL_grun rfl rfl ?_
  refine TL_y rfl rfl (Y_move rfl) ?_
  refine TL_grun rfl rfl ?_
  refine TL_y rfl rfl (Y_len rfl) ?_
  refine TL_grun rfl rfl ?_
  refine TL_y rfl rfl (Y_sub rfl rfl (by simp only [List.length_append]; omega)) ?_
  refine TL_grun rfl rfl ?_
  refine TL_y rfl rfl (Y_eq rfl rfl) ?_
  refine TL_name 68 (v' := .bool true) rfl (congrArg Value.bool (decide_eq_true (by simp only [List.length_append]; omega))) ?_
  refine TL_y rfl rfl (Y_pick_t rfl rfl) ?_
  refine TL_y rfl rfl (Y_assign rfl) ?_
  refine TL_nil ?_
  refine T_ret ?_
  exact RetG_1 (.inl rfl) rfl (ResV.tmp rfl) GivesTo.g (⟨rfl, rfl⟩)
end Go.SL
