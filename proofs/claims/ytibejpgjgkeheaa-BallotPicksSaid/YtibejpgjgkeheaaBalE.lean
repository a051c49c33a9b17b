/- Ballots: what must come of every program; the next ballot. -/
import Derived.Test.YtibejpgjgkeheaaBalD
set_option linter.unusedVariables false
set_option linter.unusedSimpArgs false
namespace Go.SL
open Go Go.Proofs
theorem addV_len {bs : List Bool} {n node : Int} (h : bs.length = 7) : (addV bs n node).length = 7 := by
  unfold addV; split <;> simp [h]
abbrev lv1 : VotedD := ⟨2, (1, 2), ⟨false, ⟨⟨#[98]⟩, ⟨#[]⟩, 0, []⟩⟩⟩
abbrev lv2 : VotedD := ⟨2, (1, 0), ⟨false, ⟨⟨#[97]⟩, ⟨#[]⟩, 0, []⟩⟩⟩
theorem sep_nil_sl (M : Mem) : Sep [sl (intR .i64) none 0 []] M Mem.emp := ⟨Mem.emp, Mem.emp, Mem.emp_disj _, Mem.le_refl _, Mem.le_refl _, sliceAt.nil _ _ _ _, trivial⟩
theorem lv_pick : pickV 2 [lv1, lv2] = some lv1 := rfl
theorem lives15_spec (L : List HP) : Fn Try.prog 18 #[] L (fun v L' => v = .bool true ∧ L' = L) := by
  refine Fn_enter Try.func18 rfl rfl rfl rfl ?_
  refine T_region ?_
  refine TL_y rfl rfl (Y_assign rfl) ?_
  refine TL_nil ?_
  refine T_region ?_
  refine TL_y rfl rfl (Y_build rfl rfl) ?_
  refine TL_y rfl rfl (Y_build rfl rfl) ?_
  refine TL_y rfl rfl (Y_build rfl rfl) ?_
  refine TL_y rfl rfl (Y_build rfl rfl) ?_
  refine TL_y rfl rfl (Y_build rfl rfl) ?_
  refine TL_y rfl rfl (Y_build rfl rfl) ?_
  refine TL_y rfl rfl (Y_build rfl rfl) ?_
  refine TL_y rfl rfl (Y_build rfl rfl) ?_
  refine TL_build_slice rfl rfl rfl rfl rfl rfl ?_
  intro b14
  refine TL_osl (k := 2) votedR [lv1, lv2] (Knows.const fun M => ⟨votedC lv1 (none, 0), votedC lv2 (none, 0), ⟨(none, 0), rfl, sep_nil_sl M, by unfold votedOk orderOk'; decide⟩, ⟨votedC lv2 (none, 0), [], ⟨(none, 0), rfl, sep_nil_sl M, by unfold votedOk orderOk'; decide⟩, rfl, rfl⟩, rfl⟩) rfl (by decide) ?_
  refine TL_freeze_osl ?_
  refine TL_name 14 (v' := .slice (some ⟨b14, 0, none⟩) [lv1, lv2].length 2) rfl rfl ?_
  refine TL_y rfl rfl (Y_assign rfl) ?_
  refine TL_nil ?_
  refine T_region ?_
  refine TL_y rfl rfl (Y_move rfl) ?_
  refine TL_call rfl rfl (pick_spec (l := [lv1, lv2]) slk 2) ?_
  rintro _ _ ⟨A17, c17, rfl, rfl⟩
  rw [lv_pick]
  simp only [bestOr_some, Option.isSome_some]
  refine TL_y rfl rfl (Y_move rfl) ?_
  refine TL_y rfl rfl (Y_extract rfl rfl) ?_
  refine TL_y rfl rfl (Y_extract rfl rfl) ?_
  refine TL_alloc rfl rfl ?_
  intro b2
  refine TL_store rfl rfl rfl rfl rfl rfl ?_
  refine TL_y rfl rfl (Y_assign rfl) ?_
  refine TL_nil ?_
  refine T_region ?_
  refine TL_call rfl rfl (newVotes_spec 3 _) ?_
  rintro v21 L21 h21
  rcases h21 with ⟨h, _⟩ | ⟨_, b21, rfl, rfl⟩
  exact absurd (by decide) h
  refine TL_y rfl rfl (Y_move rfl) ?_
  refine TL_y rfl rfl (Y_extract rfl rfl) ?_
  refine TL_y rfl rfl (Y_extract rfl rfl) ?_
  refine TL_y rfl rfl (Y_assign rfl) ?_
  refine TL_y rfl rfl (Y_assign rfl) ?_
  refine TL_nil ?_
  refine T_region ?_
  refine TL_y rfl rfl (Y_move rfl) ?_
  refine TL_name 24 (v' := .bool true) rfl (rfl) ?_
  refine TL_y rfl rfl (Y_move rfl) ?_
  refine TL_grun rfl rfl ?_
  refine TL_y rfl rfl (Y_field_addr rfl) ?_
  refine TL_grun rfl rfl ?_
  refine TL_y rfl rfl (Y_field_addr rfl) ?_
  refine TL_grun rfl rfl ?_
  refine TL_y rfl rfl (Y_load rfl rfl) ?_
  refine TL_grun rfl rfl ?_
  refine TL_y rfl rfl (Y_str_eq rfl rfl) ?_
  refine TL_name 29 (v' := .bool true) rfl (congrArg Value.bool (by decide)) ?_
  refine TL_y rfl rfl (Y_pick_t rfl rfl) ?_
  refine TL_y rfl rfl (Y_move rfl) ?_
  refine TL_grun rfl rfl ?_
  refine TL_y rfl rfl (Y_move rfl) ?_
  refine TL_grun rfl rfl ?_
  refine TL_y rfl rfl (Y_eq rfl rfl) ?_
  refine TL_name 33 (v' := .bool true) rfl (congrArg Value.bool (by decide)) ?_
  refine TL_y rfl rfl (Y_pick_t rfl rfl) ?_
  refine TL_y rfl rfl (Y_move rfl) ?_
  refine TL_grun rfl rfl ?_
  refine TL_y rfl rfl (Y_move rfl) ?_
  refine TL_grun rfl rfl ?_
  refine TL_y rfl rfl (Y_unequal rfl rfl (EqIs.ptr_nil)) ?_
  refine TL_name 37 (v' := .bool true) rfl (congrArg Value.bool (by simp)) ?_
  refine TL_y rfl rfl (Y_pick_t rfl rfl) ?_
  refine TL_y rfl rfl (Y_move rfl) ?_
  refine TL_grun rfl rfl ?_
  refine TL_y rfl rfl (Y_move rfl) ?_
  refine TL_grun rfl rfl ?_
  refine TL_pullc b21 ?_
  refine TL_call rfl rfl (add_spec (bs := List.replicate 7 false) rfl (by decide) 1) ?_
  rintro _ _ ⟨rfl, rfl⟩
  refine TL_name 41 (v' := .bool true) rfl (congrArg Value.bool (by decide)) ?_
  refine TL_y rfl rfl (Y_pick_t rfl rfl) ?_
  refine TL_y rfl rfl (Y_move rfl) ?_
  refine TL_grun rfl rfl ?_
  refine TL_y rfl rfl (Y_move rfl) ?_
  refine TL_grun rfl rfl ?_
  refine TL_call rfl rfl (add_spec (addV_len rfl) (by decide) 1) ?_
  rintro _ _ ⟨rfl, rfl⟩
  refine TL_name 45 (v' := .bool false) rfl (congrArg Value.bool (by decide)) ?_
  refine TL_grun rfl rfl ?_
  refine TL_y rfl rfl (Y_not_f rfl) ?_
  refine TL_y rfl rfl (Y_pick_t rfl rfl) ?_
  refine TL_y rfl rfl (Y_move rfl) ?_
  refine TL_grun rfl rfl ?_
  refine TL_y rfl rfl (Y_move rfl) ?_
  refine TL_grun rfl rfl ?_
  refine TL_call rfl rfl (enough_spec (addV_len (addV_len rfl)) (by decide)) ?_
  rintro _ _ ⟨rfl, rfl⟩
  refine TL_name 50 (v' := .bool false) rfl (congrArg Value.bool (by decide)) ?_
  refine TL_grun rfl rfl ?_
  refine TL_y rfl rfl (Y_not_f rfl) ?_
  refine TL_y rfl rfl (Y_pick_t rfl rfl) ?_
  refine TL_y rfl rfl (Y_move rfl) ?_
  refine TL_grun rfl rfl ?_
  refine TL_y rfl rfl (Y_move rfl) ?_
  refine TL_grun rfl rfl ?_
  refine TL_call rfl rfl (add_spec (addV_len (addV_len rfl)) (by decide) 0) ?_
  rintro _ _ ⟨rfl, rfl⟩
  refine TL_name 55 (v' := .bool true) rfl (congrArg Value.bool (by decide)) ?_
  refine TL_y rfl rfl (Y_pick_t rfl rfl) ?_
  refine TL_y rfl rfl (Y_move rfl) ?_
  refine TL_grun rfl rfl ?_
  refine TL_y rfl rfl (Y_move rfl) ?_
  refine TL_grun rfl rfl ?_
  refine TL_call rfl rfl (enough_spec (addV_len (addV_len (addV_len rfl))) (by decide)) ?_
  rintro _ _ ⟨rfl, rfl⟩
  refine TL_name 59 (v' := .bool true) rfl (congrArg Value.bool (by decide)) ?_
  refine TL_y rfl rfl (Y_pick_t rfl rfl) ?_
  refine TL_y rfl rfl (Y_move rfl) ?_
  refine TL_grun rfl rfl ?_
  refine TL_call rfl rfl (quorum_spec 5 (by decide) _) ?_
  rintro _ _ ⟨rfl, rfl⟩
  refine TL_grun rfl rfl ?_
  refine TL_y rfl rfl (Y_eq rfl rfl) ?_
  refine TL_name 63 (v' := .bool true) rfl (congrArg Value.bool (by decide)) ?_
  refine TL_y rfl rfl (Y_pick_t rfl rfl) ?_
  refine TL_y rfl rfl (Y_assign rfl) ?_
  refine TL_nil ?_
  refine T_ret ?_
  exact RetG_1 (.inl rfl) rfl (ResV.tmp rfl) GivesTo.g (⟨rfl, rfl⟩)
end Go.SL
