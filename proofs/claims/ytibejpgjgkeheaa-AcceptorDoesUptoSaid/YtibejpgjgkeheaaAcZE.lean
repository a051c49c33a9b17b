/- What the laws of this claim need, together: the logic, data in memory, the walks of functions. -/
import Derived.Test.YtibejpgjgkeheaaAcZD
import Derived.RowsInLaws
import Derived.Shelf.SlMaps.Clone
import Derived.Shelf.Lay
set_option linter.unusedVariables false
set_option linter.unusedSimpArgs false
set_option linter.unusedVariables false
set_option linter.unusedSimpArgs false
namespace Go.SL
open Go Go.Proofs
theorem rightBallot_spec (L : List HP) (a : Int × Int) : Fn Try.prog 130 #[pairV a] L (fun v L' => v = .bool (decide (rBal a)) ∧ L' = L) := by
  refine Fn_enter Try.func130 rfl rfl rfl rfl ?_
  refine T_region ?_
  refine TL_box rfl rfl rfl ?_
  intro b1
  refine TL_y rfl rfl (Y_assign rfl) ?_
  refine TL_nil ?_
  refine T_region ?_
  refine TL_y rfl rfl (Y_field_addr rfl) ?_
  refine TL_y rfl rfl (Y_load rfl rfl) ?_
  refine TL_call rfl rfl (refTo_spec _ _ _) ?_
  rintro _ _ ⟨rfl, rfl⟩
  refine TL_both 5 10 (rBal a) ?_ ?_
  · refine TL_y rfl rfl (Y_move rfl) ?_
    refine TL_splitd 6 rfl (fun h6 => ?_) (fun h6 => ?_)
    · refine TL_grun rfl rfl ?_
      refine TL_y rfl rfl (Y_field_addr rfl) ?_
      refine TL_grun rfl rfl ?_
      refine TL_y rfl rfl (Y_load rfl rfl) ?_
      refine TL_grun rfl rfl ?_
      refine TL_call rfl rfl (refTo_spec _ _ _) ?_
      rintro _ _ ⟨rfl, rfl⟩
      refine TL_y rfl rfl (Y_pick_t rfl rfl) ?_
      refine TL_chain_end rfl ?_ (by repeat (first | exact sub_refl | refine sub_ext rfl ?_)) GivesTo.g
      exact congrArg Value.bool (decide_eq_decide.2 (by simp [rBal, *]))
    · refine TL_gskip rfl rfl rfl rfl ?_
      refine TL_gskip rfl rfl rfl rfl ?_
      refine TL_gskip rfl rfl rfl rfl ?_
      refine TL_y rfl rfl (Y_pick_f rfl rfl) ?_
      refine TL_chain_end rfl ?_ (by repeat (first | exact sub_refl | refine sub_ext rfl ?_)) GivesTo.g
      exact congrArg Value.bool (decide_eq_false (by simp [rBal, *])).symm
  refine TL_y rfl rfl (Y_assign rfl) ?_
  refine TL_nil ?_
  refine T_ret ?_
  exact RetG_1 (.inl rfl) rfl (ResV.tmp rfl) GivesTo.g (⟨rfl, rfl⟩)
theorem rightEvent_spec {L : List HP} {A : Option Addr} {c : Nat} (e : EventD) (hx : eventOk e) (hk : SlK L (intR .i64) A c e.deps) : Fn Try.prog 133 #[.agg (List.toArray (eventC e (A, c)))] L (fun v L' => v = .bool (decide (rEvent e)) ∧ L' = L) := by
  refine Fn_enter Try.func133 rfl rfl rfl rfl ?_
  refine T_gives hk.lay ?_
  refine T_region ?_
  refine TL_box rfl rfl rfl ?_
  intro b1
  refine TL_y rfl rfl (Y_assign rfl) ?_
  refine TL_nil ?_
  refine T_region ?_
  refine TL_y rfl rfl (Y_field_addr rfl) ?_
  refine TL_y rfl rfl (Y_field_addr rfl) ?_
  refine TL_y rfl rfl (Y_load rfl rfl) ?_
  refine TL_call rfl rfl (refTo_spec _ _ _) ?_
  rintro _ _ ⟨rfl, rfl⟩
  refine TL_both 31 37 (rEvent e) ?_ ?_
  · refine TL_y rfl rfl (Y_move rfl) ?_
    refine TL_splitd 7 rfl (fun h7 => ?_) (fun h7 => ?_)
    · refine TL_grun rfl rfl ?_
      refine TL_y rfl rfl (Y_field_addr rfl) ?_
      refine TL_grun rfl rfl ?_
      refine TL_y rfl rfl (Y_field_addr rfl) ?_
      refine TL_grun rfl rfl ?_
      refine TL_y rfl rfl (Y_load rfl rfl) ?_
      refine TL_grun rfl rfl ?_
      refine TL_call rfl rfl (refTo_spec _ _ _) ?_
      rintro _ _ ⟨rfl, rfl⟩
      refine TL_y rfl rfl (Y_pick_t rfl rfl) ?_
      refine TL_y rfl rfl (Y_move rfl) ?_
      refine TL_splitd 13 rfl (fun h13 => ?_) (fun h13 => ?_)
      · refine TL_grun rfl rfl ?_
        refine TL_y rfl rfl (Y_field_addr rfl) ?_
        refine TL_grun rfl rfl ?_
        refine TL_y rfl rfl (Y_load rfl rfl) ?_
        refine TL_grun rfl rfl ?_
        refine TL_call rfl rfl (refVector_spec slk) ?_
        rintro _ _ ⟨rfl, rfl⟩
        refine TL_y rfl rfl (Y_pick_t rfl rfl) ?_
        refine TL_y rfl rfl (Y_move rfl) ?_
        refine TL_splitd 18 rfl (fun h18 => ?_) (fun h18 => ?_)
        · refine TL_grun rfl rfl ?_
          refine TL_y rfl rfl (Y_field_addr rfl) ?_
          refine TL_grun rfl rfl ?_
          refine TL_y rfl rfl (Y_load rfl rfl) ?_
          refine TL_grun rfl rfl ?_
          refine TL_call rfl rfl (refName_spec _ e.cart hx.2.2.2.1) ?_
          rintro _ _ ⟨rfl, rfl⟩
          refine TL_y rfl rfl (Y_pick_t rfl rfl) ?_
          refine TL_y rfl rfl (Y_move rfl) ?_
          refine TL_splitd 23 rfl (fun h23 => ?_) (fun h23 => ?_)
          · refine TL_grun rfl rfl ?_
            refine TL_y rfl rfl (Y_field_addr rfl) ?_
            refine TL_grun rfl rfl ?_
            refine TL_y rfl rfl (Y_load rfl rfl) ?_
            refine TL_grun rfl rfl ?_
            refine TL_call rfl rfl (refTo_spec _ _ _) ?_
            rintro _ _ ⟨rfl, rfl⟩
            refine TL_y rfl rfl (Y_pick_t rfl rfl) ?_
            refine TL_y rfl rfl (Y_move rfl) ?_
            refine TL_splitd 28 rfl (fun h28 => ?_) (fun h28 => ?_)
            · refine TL_grun rfl rfl ?_
              refine TL_y rfl rfl (Y_field_addr rfl) ?_
              refine TL_grun rfl rfl ?_
              refine TL_y rfl rfl (Y_load rfl rfl) ?_
              refine TL_grun rfl rfl ?_
              refine TL_call rfl rfl (refName_spec _ e.sku hx.2.2.2.2.2.1) ?_
              rintro _ _ ⟨rfl, rfl⟩
              refine TL_y rfl rfl (Y_pick_t rfl rfl) ?_
              refine TL_y rfl rfl (Y_move rfl) ?_
              refine TL_splitd 33 rfl (fun h33 => ?_) (fun h33 => ?_)
              · refine TL_grun rfl rfl ?_
                refine TL_y rfl rfl (Y_field_addr rfl) ?_
                refine TL_grun rfl rfl ?_
                refine TL_y rfl rfl (Y_load rfl rfl) ?_
                refine TL_grun rfl rfl ?_
                refine TL_call rfl rfl (refTo_spec _ _ _) ?_
                rintro _ _ ⟨rfl, rfl⟩
                refine TL_y rfl rfl (Y_pick_t rfl rfl) ?_
                refine TL_chain_end rfl ?_ (by repeat (first | exact sub_refl | refine sub_ext rfl ?_)) GivesTo.g
                exact congrArg Value.bool (decide_eq_decide.2 (by simp [rEvent, *]))
              · refine TL_gskip rfl rfl rfl rfl ?_
                refine TL_gskip rfl rfl rfl rfl ?_
                refine TL_gskip rfl rfl rfl rfl ?_
                refine TL_y rfl rfl (Y_pick_f rfl rfl) ?_
                refine TL_chain_end rfl ?_ (by repeat (first | exact sub_refl | refine sub_ext rfl ?_)) GivesTo.g
                exact congrArg Value.bool (decide_eq_false (by simp [rEvent, *])).symm
            · refine TL_gskip rfl rfl rfl rfl ?_
              refine TL_gskip rfl rfl rfl rfl ?_
              refine TL_gskip rfl rfl rfl rfl ?_
              refine TL_y rfl rfl (Y_pick_f rfl rfl) ?_
              refine TL_y rfl rfl (Y_move rfl) ?_
              refine TL_gskip rfl rfl rfl rfl ?_
              refine TL_gskip rfl rfl rfl rfl ?_
              refine TL_gskip rfl rfl rfl rfl ?_
              refine TL_y rfl rfl (Y_pick_f rfl rfl) ?_
              refine TL_chain_end rfl ?_ (by repeat (first | exact sub_refl | refine sub_ext rfl ?_)) GivesTo.g
              exact congrArg Value.bool (decide_eq_false (by simp [rEvent, *])).symm
          · refine TL_gskip rfl rfl rfl rfl ?_
            refine TL_gskip rfl rfl rfl rfl ?_
            refine TL_gskip rfl rfl rfl rfl ?_
            refine TL_y rfl rfl (Y_pick_f rfl rfl) ?_
            refine TL_y rfl rfl (Y_move rfl) ?_
            refine TL_gskip rfl rfl rfl rfl ?_
            refine TL_gskip rfl rfl rfl rfl ?_
            refine TL_gskip rfl rfl rfl rfl ?_
            refine TL_y rfl rfl (Y_pick_f rfl rfl) ?_
            refine TL_y rfl rfl (Y_move rfl) ?_
            refine TL_gskip rfl rfl rfl rfl ?_
            refine TL_gskip rfl rfl rfl rfl ?_
            refine TL_gskip rfl rfl rfl rfl ?_
            refine TL_y rfl rfl (Y_pick_f rfl rfl) ?_
            refine TL_chain_end rfl ?_ (by repeat (first | exact sub_refl | refine sub_ext rfl ?_)) GivesTo.g
            exact congrArg Value.bool (decide_eq_false (by simp [rEvent, *])).symm
        · refine TL_gskip rfl rfl rfl rfl ?_
          refine TL_gskip rfl rfl rfl rfl ?_
          refine TL_gskip rfl rfl rfl rfl ?_
          refine TL_y rfl rfl (Y_pick_f rfl rfl) ?_
          refine TL_y rfl rfl (Y_move rfl) ?_
          refine TL_gskip rfl rfl rfl rfl ?_
          refine TL_gskip rfl rfl rfl rfl ?_
          refine TL_gskip rfl rfl rfl rfl ?_
          refine TL_y rfl rfl (Y_pick_f rfl rfl) ?_
          refine TL_y rfl rfl (Y_move rfl) ?_
          refine TL_gskip rfl rfl rfl rfl ?_
          refine TL_gskip rfl rfl rfl rfl ?_
          refine TL_gskip rfl rfl rfl rfl ?_
          refine TL_y rfl rfl (Y_pick_f rfl rfl) ?_
          refine TL_y rfl rfl (Y_move rfl) ?_
          refine TL_gskip rfl rfl rfl rfl ?_
          refine TL_gskip rfl rfl rfl rfl ?_
          refine TL_gskip rfl rfl rfl rfl ?_
          refine TL_y rfl rfl (Y_pick_f rfl rfl) ?_
          refine TL_chain_end rfl ?_ (by repeat (first | exact sub_refl | refine sub_ext rfl ?_)) GivesTo.g
          exact congrArg Value.bool (decide_eq_false (by simp [rEvent, *])).symm
      · refine TL_gskip rfl rfl rfl rfl ?_
        refine TL_gskip rfl rfl rfl rfl ?_
        refine TL_gskip rfl rfl rfl rfl ?_
        refine TL_y rfl rfl (Y_pick_f rfl rfl) ?_
        refine TL_y rfl rfl (Y_move rfl) ?_
        refine TL_gskip rfl rfl rfl rfl ?_
        refine TL_gskip rfl rfl rfl rfl ?_
        refine TL_gskip rfl rfl rfl rfl ?_
        refine TL_y rfl rfl (Y_pick_f rfl rfl) ?_
        refine TL_y rfl rfl (Y_move rfl) ?_
        refine TL_gskip rfl rfl rfl rfl ?_
        refine TL_gskip rfl rfl rfl rfl ?_
        refine TL_gskip rfl rfl rfl rfl ?_
        refine TL_y rfl rfl (Y_pick_f rfl rfl) ?_
        refine TL_y rfl rfl (Y_move rfl) ?_
        refine TL_gskip rfl rfl rfl rfl ?_
        refine TL_gskip rfl rfl rfl rfl ?_
        refine TL_gskip rfl rfl rfl rfl ?_
        refine TL_y rfl rfl (Y_pick_f rfl rfl) ?_
        refine TL_y rfl rfl (Y_move rfl) ?_
        refine TL_gskip rfl rfl rfl rfl ?_
        refine TL_gskip rfl rfl rfl rfl ?_
        refine TL_gskip rfl rfl rfl rfl ?_
        refine TL_y rfl rfl (Y_pick_f rfl rfl) ?_
        refine TL_chain_end rfl ?_ (by repeat (first | exact sub_refl | refine sub_ext rfl ?_)) GivesTo.g
        exact congrArg Value.bool (decide_eq_false (by simp [rEvent, *])).symm
    · refine TL_gskip rfl rfl rfl rfl ?_
      refine TL_gskip rfl rfl rfl rfl ?_
      refine TL_gskip rfl rfl rfl rfl ?_
      refine TL_gskip rfl rfl rfl rfl ?_
      refine TL_y rfl rfl (Y_pick_f rfl rfl) ?_
      refine TL_y rfl rfl (Y_move rfl) ?_
      refine TL_gskip rfl rfl rfl rfl ?_
      refine TL_gskip rfl rfl rfl rfl ?_
      refine TL_gskip rfl rfl rfl rfl ?_
      refine TL_y rfl rfl (Y_pick_f rfl rfl) ?_
      refine TL_y rfl rfl (Y_move rfl) ?_
      refine TL_gskip rfl rfl rfl rfl ?_
      refine TL_gskip rfl rfl rfl rfl ?_
      refine TL_gskip rfl rfl rfl rfl ?_
      refine TL_y rfl rfl (Y_pick_f rfl rfl) ?_
      refine TL_y rfl rfl (Y_move rfl) ?_
      refine TL_gskip rfl rfl rfl rfl ?_
      refine TL_gskip rfl rfl rfl rfl ?_
      refine TL_gskip rfl rfl rfl rfl ?_
      refine TL_y rfl rfl (Y_pick_f rfl rfl) ?_
      refine TL_y rfl rfl (Y_move rfl) ?_
      refine TL_gskip rfl rfl rfl rfl ?_
      refine TL_gskip rfl rfl rfl rfl ?_
      refine TL_gskip rfl rfl rfl rfl ?_
      refine TL_y rfl rfl (Y_pick_f rfl rfl) ?_
      refine TL_y rfl rfl (Y_move rfl) ?_
      refine TL_gskip rfl rfl rfl rfl ?_
      refine TL_gskip rfl rfl rfl rfl ?_
      refine TL_gskip rfl rfl rfl rfl ?_
      refine TL_y rfl rfl (Y_pick_f rfl rfl) ?_
      refine TL_chain_end rfl ?_ (by repeat (first | exact sub_refl | refine sub_ext rfl ?_)) GivesTo.g
      exact congrArg Value.bool (decide_eq_false (by simp [rEvent, *])).symm
  refine TL_y rfl rfl (Y_assign rfl) ?_
  refine TL_nil ?_
  refine T_ret ?_
  exact RetG_1 (.inl rfl) rfl (ResV.tmp rfl) GivesTo.g (⟨rfl, rfl⟩)
def HeadM (m : MsgD) : Prop := rNum 255 m.kind ∧ rNum 6 m.frm ∧ rNum 6 m.to_ ∧ rBal m.bal ∧ rNum 2147483647 m.slot ∧ rEntry m.en ∧ m.voted.length ≤ 4096 ∧ rVec m.seen ∧ m.events.length ≤ 4096 ∧ rNum 4611686018427387904 m.time
instance (m : MsgD) : Decidable (HeadM m) := by unfold HeadM; exact inferInstance
theorem head_msg {m : MsgD} : rMsg m ↔ HeadM m ∧ (∀ v ∈ m.voted, rVoted v) ∧ ∀ v ∈ m.events, rEvent v := by
  unfold rMsg HeadM
  constructor
  · rintro ⟨h1, h2, h3, h4, h5, h6, ⟨h7, h8⟩, h9, ⟨ha, hb⟩, hc⟩
    exact ⟨⟨h1, h2, h3, h4, h5, h6, h7, h9, ha, hc⟩, h8, hb⟩
  · rintro ⟨⟨h1, h2, h3, h4, h5, h6, h7, h9, ha, hc⟩, h8, hb⟩
    exact ⟨h1, h2, h3, h4, h5, h6, ⟨h7, h8⟩, h9, ⟨ha, hb⟩, hc⟩
theorem rightMsg_spec {L : List HP} (m : MsgD) (p : MsgP) (hx : MsgOk m) (hk : MsgK L m p) : Fn Try.prog 100 #[msgV m p] L (fun v L' => v = .bool (decide (rMsg m)) ∧ L' = L) := by
  refine Fn_enter Try.func100 rfl rfl rfl rfl ?_
  refine T_gives (MsgK.lay hk) ?_
  refine SlK.lens (slk (A := p.voted.1) (c := p.voted.2)) fun hlv => ?_
  refine SlK.lens (slk (A := p.events.1) (c := p.events.2)) fun hle => ?_
  simp only [maxEl] at hlv hle
  refine T_region ?_
  refine TL_box rfl rfl rfl ?_
  intro b1
  refine TL_y rfl rfl (Y_assign rfl) ?_
  refine TL_nil ?_
  refine T_seq ?_
  refine T_region ?_
  refine TL_y rfl rfl (Y_field_addr rfl) ?_
  refine TL_y rfl rfl (Y_load rfl rfl) ?_
  refine TL_call rfl rfl (refTo_spec _ _ _) ?_
  rintro _ _ ⟨rfl, rfl⟩
  refine TL_y rfl rfl (Y_not_d rfl) ?_
  refine TL_both 54 62 (¬ HeadM m) ?_ ?_
  · refine TL_y rfl rfl (Y_move rfl) ?_
    refine TL_splitd 9 rfl (fun h9 => ?_) (fun h9 => ?_)
    · refine TL_gskip rfl rfl rfl rfl ?_
      refine TL_gskip rfl rfl rfl rfl ?_
      refine TL_gskip rfl rfl rfl rfl ?_
      refine TL_gskip rfl rfl rfl rfl ?_
      refine TL_y rfl rfl (Y_pick_t rfl rfl) ?_
      refine TL_y rfl rfl (Y_move rfl) ?_
      refine TL_gskip rfl rfl rfl rfl ?_
      refine TL_gskip rfl rfl rfl rfl ?_
      refine TL_gskip rfl rfl rfl rfl ?_
      refine TL_gskip rfl rfl rfl rfl ?_
      refine TL_y rfl rfl (Y_pick_t rfl rfl) ?_
      refine TL_y rfl rfl (Y_move rfl) ?_
      refine TL_gskip rfl rfl rfl rfl ?_
      refine TL_gskip rfl rfl rfl rfl ?_
      refine TL_gskip rfl rfl rfl rfl ?_
      refine TL_gskip rfl rfl rfl rfl ?_
      refine TL_y rfl rfl (Y_pick_t rfl rfl) ?_
      refine TL_y rfl rfl (Y_move rfl) ?_
      refine TL_gskip rfl rfl rfl rfl ?_
      refine TL_gskip rfl rfl rfl rfl ?_
      refine TL_gskip rfl rfl rfl rfl ?_
      refine TL_gskip rfl rfl rfl rfl ?_
      refine TL_y rfl rfl (Y_pick_t rfl rfl) ?_
      refine TL_y rfl rfl (Y_move rfl) ?_
      refine TL_gskip rfl rfl rfl rfl ?_
      refine TL_gskip rfl rfl rfl rfl ?_
      refine TL_gskip rfl rfl rfl rfl ?_
      refine TL_gskip rfl rfl rfl rfl ?_
      refine TL_y rfl rfl (Y_pick_t rfl rfl) ?_
      refine TL_y rfl rfl (Y_move rfl) ?_
      refine TL_gskip rfl rfl rfl rfl ?_
      refine TL_gskip rfl rfl rfl rfl ?_
      refine TL_gskip rfl rfl rfl rfl ?_
      refine TL_gskip rfl rfl rfl rfl ?_
      refine TL_y rfl rfl (Y_pick_t rfl rfl) ?_
      refine TL_y rfl rfl (Y_move rfl) ?_
      refine TL_gskip rfl rfl rfl rfl ?_
      refine TL_gskip rfl rfl rfl rfl ?_
      refine TL_gskip rfl rfl rfl rfl ?_
      refine TL_gskip rfl rfl rfl rfl ?_
      refine TL_y rfl rfl (Y_pick_t rfl rfl) ?_
      refine TL_y rfl rfl (Y_move rfl) ?_
      refine TL_gskip rfl rfl rfl rfl ?_
      refine TL_gskip rfl rfl rfl rfl ?_
      refine TL_gskip rfl rfl rfl rfl ?_
      refine TL_gskip rfl rfl rfl rfl ?_
      refine TL_y rfl rfl (Y_pick_t rfl rfl) ?_
      refine TL_y rfl rfl (Y_move rfl) ?_
      refine TL_gskip rfl rfl rfl rfl ?_
      refine TL_gskip rfl rfl rfl rfl ?_
      refine TL_gskip rfl rfl rfl rfl ?_
      refine TL_gskip rfl rfl rfl rfl ?_
      refine TL_y rfl rfl (Y_pick_t rfl rfl) ?_
      refine TL_chain_end rfl ?_ (by repeat (first | exact sub_refl | refine sub_ext rfl ?_)) GivesTo.g
      exact congrArg Value.bool (decide_eq_true (by unfold HeadM; first | (simp [*]; done) | (simp [*]; omega))).symm
    · refine TL_grun rfl rfl ?_
      refine TL_y rfl rfl (Y_field_addr rfl) ?_
      refine TL_grun rfl rfl ?_
      refine TL_y rfl rfl (Y_load rfl rfl) ?_
      refine TL_grun rfl rfl ?_
      refine TL_call rfl rfl (refTo_spec _ _ _) ?_
      rintro _ _ ⟨rfl, rfl⟩
      refine TL_grun rfl rfl ?_
      refine TL_y rfl rfl (Y_not_d rfl) ?_
      refine TL_y rfl rfl (Y_pick_f rfl rfl) ?_
      refine TL_y rfl rfl (Y_move rfl) ?_
      refine TL_splitd 15 rfl (fun h15 => ?_) (fun h15 => ?_)
      · refine TL_gskip rfl rfl rfl rfl ?_
        refine TL_gskip rfl rfl rfl rfl ?_
        refine TL_gskip rfl rfl rfl rfl ?_
        refine TL_gskip rfl rfl rfl rfl ?_
        refine TL_y rfl rfl (Y_pick_t rfl rfl) ?_
        refine TL_y rfl rfl (Y_move rfl) ?_
        refine TL_gskip rfl rfl rfl rfl ?_
        refine TL_gskip rfl rfl rfl rfl ?_
        refine TL_gskip rfl rfl rfl rfl ?_
        refine TL_gskip rfl rfl rfl rfl ?_
        refine TL_y rfl rfl (Y_pick_t rfl rfl) ?_
        refine TL_y rfl rfl (Y_move rfl) ?_
        refine TL_gskip rfl rfl rfl rfl ?_
        refine TL_gskip rfl rfl rfl rfl ?_
        refine TL_gskip rfl rfl rfl rfl ?_
        refine TL_gskip rfl rfl rfl rfl ?_
        refine TL_y rfl rfl (Y_pick_t rfl rfl) ?_
        refine TL_y rfl rfl (Y_move rfl) ?_
        refine TL_gskip rfl rfl rfl rfl ?_
        refine TL_gskip rfl rfl rfl rfl ?_
        refine TL_gskip rfl rfl rfl rfl ?_
        refine TL_gskip rfl rfl rfl rfl ?_
        refine TL_y rfl rfl (Y_pick_t rfl rfl) ?_
        refine TL_y rfl rfl (Y_move rfl) ?_
        refine TL_gskip rfl rfl rfl rfl ?_
        refine TL_gskip rfl rfl rfl rfl ?_
        refine TL_gskip rfl rfl rfl rfl ?_
        refine TL_gskip rfl rfl rfl rfl ?_
        refine TL_y rfl rfl (Y_pick_t rfl rfl) ?_
        refine TL_y rfl rfl (Y_move rfl) ?_
        refine TL_gskip rfl rfl rfl rfl ?_
        refine TL_gskip rfl rfl rfl rfl ?_
        refine TL_gskip rfl rfl rfl rfl ?_
        refine TL_gskip rfl rfl rfl rfl ?_
        refine TL_y rfl rfl (Y_pick_t rfl rfl) ?_
        refine TL_y rfl rfl (Y_move rfl) ?_
        refine TL_gskip rfl rfl rfl rfl ?_
        refine TL_gskip rfl rfl rfl rfl ?_
        refine TL_gskip rfl rfl rfl rfl ?_
        refine TL_gskip rfl rfl rfl rfl ?_
        refine TL_y rfl rfl (Y_pick_t rfl rfl) ?_
        refine TL_y rfl rfl (Y_move rfl) ?_
        refine TL_gskip rfl rfl rfl rfl ?_
        refine TL_gskip rfl rfl rfl rfl ?_
        refine TL_gskip rfl rfl rfl rfl ?_
        refine TL_gskip rfl rfl rfl rfl ?_
        refine TL_y rfl rfl (Y_pick_t rfl rfl) ?_
        refine TL_chain_end rfl ?_ (by repeat (first | exact sub_refl | refine sub_ext rfl ?_)) GivesTo.g
        exact congrArg Value.bool (decide_eq_true (by unfold HeadM; first | (simp [*]; done) | (simp [*]; omega))).symm
      · refine TL_grun rfl rfl ?_
        refine TL_y rfl rfl (Y_field_addr rfl) ?_
        refine TL_grun rfl rfl ?_
        refine TL_y rfl rfl (Y_load rfl rfl) ?_
        refine TL_grun rfl rfl ?_
        refine TL_call rfl rfl (refTo_spec _ _ _) ?_
        rintro _ _ ⟨rfl, rfl⟩
        refine TL_grun rfl rfl ?_
        refine TL_y rfl rfl (Y_not_d rfl) ?_
        refine TL_y rfl rfl (Y_pick_f rfl rfl) ?_
        refine TL_y rfl rfl (Y_move rfl) ?_
        refine TL_splitd 21 rfl (fun h21 => ?_) (fun h21 => ?_)
        · refine TL_gskip rfl rfl rfl rfl ?_
          refine TL_gskip rfl rfl rfl rfl ?_
          refine TL_gskip rfl rfl rfl rfl ?_
          refine TL_gskip rfl rfl rfl rfl ?_
          refine TL_y rfl rfl (Y_pick_t rfl rfl) ?_
          refine TL_y rfl rfl (Y_move rfl) ?_
          refine TL_gskip rfl rfl rfl rfl ?_
          refine TL_gskip rfl rfl rfl rfl ?_
          refine TL_gskip rfl rfl rfl rfl ?_
          refine TL_gskip rfl rfl rfl rfl ?_
          refine TL_y rfl rfl (Y_pick_t rfl rfl) ?_
          refine TL_y rfl rfl (Y_move rfl) ?_
          refine TL_gskip rfl rfl rfl rfl ?_
          refine TL_gskip rfl rfl rfl rfl ?_
          refine TL_gskip rfl rfl rfl rfl ?_
          refine TL_gskip rfl rfl rfl rfl ?_
          refine TL_y rfl rfl (Y_pick_t rfl rfl) ?_
          refine TL_y rfl rfl (Y_move rfl) ?_
          refine TL_gskip rfl rfl rfl rfl ?_
          refine TL_gskip rfl rfl rfl rfl ?_
          refine TL_gskip rfl rfl rfl rfl ?_
          refine TL_gskip rfl rfl rfl rfl ?_
          refine TL_y rfl rfl (Y_pick_t rfl rfl) ?_
          refine TL_y rfl rfl (Y_move rfl) ?_
          refine TL_gskip rfl rfl rfl rfl ?_
          refine TL_gskip rfl rfl rfl rfl ?_
          refine TL_gskip rfl rfl rfl rfl ?_
          refine TL_gskip rfl rfl rfl rfl ?_
          refine TL_y rfl rfl (Y_pick_t rfl rfl) ?_
          refine TL_y rfl rfl (Y_move rfl) ?_
          refine TL_gskip rfl rfl rfl rfl ?_
          refine TL_gskip rfl rfl rfl rfl ?_
          refine TL_gskip rfl rfl rfl rfl ?_
          refine TL_gskip rfl rfl rfl rfl ?_
          refine TL_y rfl rfl (Y_pick_t rfl rfl) ?_
          refine TL_y rfl rfl (Y_move rfl) ?_
          refine TL_gskip rfl rfl rfl rfl ?_
          refine TL_gskip rfl rfl rfl rfl ?_
          refine TL_gskip rfl rfl rfl rfl ?_
          refine TL_gskip rfl rfl rfl rfl ?_
          refine TL_y rfl rfl (Y_pick_t rfl rfl) ?_
          refine TL_chain_end rfl ?_ (by repeat (first | exact sub_refl | refine sub_ext rfl ?_)) GivesTo.g
          exact congrArg Value.bool (decide_eq_true (by unfold HeadM; first | (simp [*]; done) | (simp [*]; omega))).symm
        · refine TL_grun rfl rfl ?_
          refine TL_y rfl rfl (Y_field_addr rfl) ?_
          refine TL_grun rfl rfl ?_
          refine TL_y rfl rfl (Y_load_agg rfl rfl) ?_
          refine TL_grun rfl rfl ?_
          refine TL_call rfl rfl (rightBallot_spec _ m.bal) ?_
          rintro _ _ ⟨rfl, rfl⟩
          refine TL_grun rfl rfl ?_
          refine TL_y rfl rfl (Y_not_d rfl) ?_
          refine TL_y rfl rfl (Y_pick_f rfl rfl) ?_
          refine TL_y rfl rfl (Y_move rfl) ?_
          refine TL_splitd 27 rfl (fun h27 => ?_) (fun h27 => ?_)
          · refine TL_gskip rfl rfl rfl rfl ?_
            refine TL_gskip rfl rfl rfl rfl ?_
            refine TL_gskip rfl rfl rfl rfl ?_
            refine TL_gskip rfl rfl rfl rfl ?_
            refine TL_y rfl rfl (Y_pick_t rfl rfl) ?_
            refine TL_y rfl rfl (Y_move rfl) ?_
            refine TL_gskip rfl rfl rfl rfl ?_
            refine TL_gskip rfl rfl rfl rfl ?_
            refine TL_gskip rfl rfl rfl rfl ?_
            refine TL_gskip rfl rfl rfl rfl ?_
            refine TL_y rfl rfl (Y_pick_t rfl rfl) ?_
            refine TL_y rfl rfl (Y_move rfl) ?_
            refine TL_gskip rfl rfl rfl rfl ?_
            refine TL_gskip rfl rfl rfl rfl ?_
            refine TL_gskip rfl rfl rfl rfl ?_
            refine TL_gskip rfl rfl rfl rfl ?_
            refine TL_y rfl rfl (Y_pick_t rfl rfl) ?_
            refine TL_y rfl rfl (Y_move rfl) ?_
            refine TL_gskip rfl rfl rfl rfl ?_
            refine TL_gskip rfl rfl rfl rfl ?_
            refine TL_gskip rfl rfl rfl rfl ?_
            refine TL_gskip rfl rfl rfl rfl ?_
            refine TL_y rfl rfl (Y_pick_t rfl rfl) ?_
            refine TL_y rfl rfl (Y_move rfl) ?_
            refine TL_gskip rfl rfl rfl rfl ?_
            refine TL_gskip rfl rfl rfl rfl ?_
            refine TL_gskip rfl rfl rfl rfl ?_
            refine TL_gskip rfl rfl rfl rfl ?_
            refine TL_y rfl rfl (Y_pick_t rfl rfl) ?_
            refine TL_y rfl rfl (Y_move rfl) ?_
            refine TL_gskip rfl rfl rfl rfl ?_
            refine TL_gskip rfl rfl rfl rfl ?_
            refine TL_gskip rfl rfl rfl rfl ?_
            refine TL_gskip rfl rfl rfl rfl ?_
            refine TL_y rfl rfl (Y_pick_t rfl rfl) ?_
            refine TL_chain_end rfl ?_ (by repeat (first | exact sub_refl | refine sub_ext rfl ?_)) GivesTo.g
            exact congrArg Value.bool (decide_eq_true (by unfold HeadM; first | (simp [*]; done) | (simp [*]; omega))).symm
          · refine TL_grun rfl rfl ?_
            refine TL_y rfl rfl (Y_field_addr rfl) ?_
            refine TL_grun rfl rfl ?_
            refine TL_y rfl rfl (Y_load rfl rfl) ?_
            refine TL_grun rfl rfl ?_
            refine TL_call rfl rfl (refTo_spec _ _ _) ?_
            rintro _ _ ⟨rfl, rfl⟩
            refine TL_grun rfl rfl ?_
            refine TL_y rfl rfl (Y_not_d rfl) ?_
            refine TL_y rfl rfl (Y_pick_f rfl rfl) ?_
            refine TL_y rfl rfl (Y_move rfl) ?_
            refine TL_splitd 33 rfl (fun h33 => ?_) (fun h33 => ?_)
            · refine TL_gskip rfl rfl rfl rfl ?_
              refine TL_gskip rfl rfl rfl rfl ?_
              refine TL_gskip rfl rfl rfl rfl ?_
              refine TL_gskip rfl rfl rfl rfl ?_
              refine TL_y rfl rfl (Y_pick_t rfl rfl) ?_
              refine TL_y rfl rfl (Y_move rfl) ?_
              refine TL_gskip rfl rfl rfl rfl ?_
              refine TL_gskip rfl rfl rfl rfl ?_
              refine TL_gskip rfl rfl rfl rfl ?_
              refine TL_gskip rfl rfl rfl rfl ?_
              refine TL_y rfl rfl (Y_pick_t rfl rfl) ?_
              refine TL_y rfl rfl (Y_move rfl) ?_
              refine TL_gskip rfl rfl rfl rfl ?_
              refine TL_gskip rfl rfl rfl rfl ?_
              refine TL_gskip rfl rfl rfl rfl ?_
              refine TL_gskip rfl rfl rfl rfl ?_
              refine TL_y rfl rfl (Y_pick_t rfl rfl) ?_
              refine TL_y rfl rfl (Y_move rfl) ?_
              refine TL_gskip rfl rfl rfl rfl ?_
              refine TL_gskip rfl rfl rfl rfl ?_
              refine TL_gskip rfl rfl rfl rfl ?_
              refine TL_gskip rfl rfl rfl rfl ?_
              refine TL_y rfl rfl (Y_pick_t rfl rfl) ?_
              refine TL_y rfl rfl (Y_move rfl) ?_
              refine TL_gskip rfl rfl rfl rfl ?_
              refine TL_gskip rfl rfl rfl rfl ?_
              refine TL_gskip rfl rfl rfl rfl ?_
              refine TL_gskip rfl rfl rfl rfl ?_
              refine TL_y rfl rfl (Y_pick_t rfl rfl) ?_
              refine TL_chain_end rfl ?_ (by repeat (first | exact sub_refl | refine sub_ext rfl ?_)) GivesTo.g
              exact congrArg Value.bool (decide_eq_true (by unfold HeadM; first | (simp [*]; done) | (simp [*]; omega))).symm
            · refine TL_grun rfl rfl ?_
              refine TL_y rfl rfl (Y_field_addr rfl) ?_
              refine TL_grun rfl rfl ?_
              refine TL_y rfl rfl (Y_load_agg rfl rfl) ?_
              refine TL_grun rfl rfl ?_
              refine TL_call rfl rfl (rightEntry_spec m.en hx.en slk) ?_
              rintro _ _ ⟨rfl, rfl⟩
              refine TL_grun rfl rfl ?_
              refine TL_y rfl rfl (Y_not_d rfl) ?_
              refine TL_y rfl rfl (Y_pick_f rfl rfl) ?_
              refine TL_y rfl rfl (Y_move rfl) ?_
              refine TL_splitd 39 rfl (fun h39 => ?_) (fun h39 => ?_)
              · refine TL_gskip rfl rfl rfl rfl ?_
                refine TL_gskip rfl rfl rfl rfl ?_
                refine TL_gskip rfl rfl rfl rfl ?_
                refine TL_gskip rfl rfl rfl rfl ?_
                refine TL_y rfl rfl (Y_pick_t rfl rfl) ?_
                refine TL_y rfl rfl (Y_move rfl) ?_
                refine TL_gskip rfl rfl rfl rfl ?_
                refine TL_gskip rfl rfl rfl rfl ?_
                refine TL_gskip rfl rfl rfl rfl ?_
                refine TL_gskip rfl rfl rfl rfl ?_
                refine TL_y rfl rfl (Y_pick_t rfl rfl) ?_
                refine TL_y rfl rfl (Y_move rfl) ?_
                refine TL_gskip rfl rfl rfl rfl ?_
                refine TL_gskip rfl rfl rfl rfl ?_
                refine TL_gskip rfl rfl rfl rfl ?_
                refine TL_gskip rfl rfl rfl rfl ?_
                refine TL_y rfl rfl (Y_pick_t rfl rfl) ?_
                refine TL_y rfl rfl (Y_move rfl) ?_
                refine TL_gskip rfl rfl rfl rfl ?_
                refine TL_gskip rfl rfl rfl rfl ?_
                refine TL_gskip rfl rfl rfl rfl ?_
                refine TL_gskip rfl rfl rfl rfl ?_
                refine TL_y rfl rfl (Y_pick_t rfl rfl) ?_
                refine TL_chain_end rfl ?_ (by repeat (first | exact sub_refl | refine sub_ext rfl ?_)) GivesTo.g
                exact congrArg Value.bool (decide_eq_true (by unfold HeadM; first | (simp [*]; done) | (simp [*]; omega))).symm
              · refine TL_grun rfl rfl ?_
                refine TL_y rfl rfl (Y_field_addr rfl) ?_
                refine TL_grun rfl rfl ?_
                refine TL_y rfl rfl (Y_load rfl rfl) ?_
                refine TL_grun rfl rfl ?_
                refine TL_y rfl rfl (Y_len rfl) ?_
                refine TL_grun rfl rfl ?_
                refine TL_y rfl rfl (Y_gt rfl rfl) ?_
                refine TL_y rfl rfl (Y_pick_f rfl rfl) ?_
                refine TL_y rfl rfl (Y_move rfl) ?_
                refine TL_splitd 45 rfl (fun h45 => ?_) (fun h45 => ?_)
                · refine TL_gskip rfl rfl rfl rfl ?_
                  refine TL_gskip rfl rfl rfl rfl ?_
                  refine TL_gskip rfl rfl rfl rfl ?_
                  refine TL_gskip rfl rfl rfl rfl ?_
                  refine TL_y rfl rfl (Y_pick_t rfl rfl) ?_
                  refine TL_y rfl rfl (Y_move rfl) ?_
                  refine TL_gskip rfl rfl rfl rfl ?_
                  refine TL_gskip rfl rfl rfl rfl ?_
                  refine TL_gskip rfl rfl rfl rfl ?_
                  refine TL_gskip rfl rfl rfl rfl ?_
                  refine TL_y rfl rfl (Y_pick_t rfl rfl) ?_
                  refine TL_y rfl rfl (Y_move rfl) ?_
                  refine TL_gskip rfl rfl rfl rfl ?_
                  refine TL_gskip rfl rfl rfl rfl ?_
                  refine TL_gskip rfl rfl rfl rfl ?_
                  refine TL_gskip rfl rfl rfl rfl ?_
                  refine TL_y rfl rfl (Y_pick_t rfl rfl) ?_
                  refine TL_chain_end rfl ?_ (by repeat (first | exact sub_refl | refine sub_ext rfl ?_)) GivesTo.g
                  exact congrArg Value.bool (decide_eq_true (by unfold HeadM; first | (simp [*]; done) | (simp [*]; omega))).symm
                · refine TL_grun rfl rfl ?_
                  refine TL_y rfl rfl (Y_field_addr rfl) ?_
                  refine TL_grun rfl rfl ?_
                  refine TL_y rfl rfl (Y_load rfl rfl) ?_
                  refine TL_grun rfl rfl ?_
                  refine TL_call rfl rfl (refVector_spec slk) ?_
                  rintro _ _ ⟨rfl, rfl⟩
                  refine TL_grun rfl rfl ?_
                  refine TL_y rfl rfl (Y_not_d rfl) ?_
                  refine TL_y rfl rfl (Y_pick_f rfl rfl) ?_
                  refine TL_y rfl rfl (Y_move rfl) ?_
                  refine TL_splitd 51 rfl (fun h51 => ?_) (fun h51 => ?_)
                  · refine TL_gskip rfl rfl rfl rfl ?_
                    refine TL_gskip rfl rfl rfl rfl ?_
                    refine TL_gskip rfl rfl rfl rfl ?_
                    refine TL_gskip rfl rfl rfl rfl ?_
                    refine TL_y rfl rfl (Y_pick_t rfl rfl) ?_
                    refine TL_y rfl rfl (Y_move rfl) ?_
                    refine TL_gskip rfl rfl rfl rfl ?_
                    refine TL_gskip rfl rfl rfl rfl ?_
                    refine TL_gskip rfl rfl rfl rfl ?_
                    refine TL_gskip rfl rfl rfl rfl ?_
                    refine TL_y rfl rfl (Y_pick_t rfl rfl) ?_
                    refine TL_chain_end rfl ?_ (by repeat (first | exact sub_refl | refine sub_ext rfl ?_)) GivesTo.g
                    exact congrArg Value.bool (decide_eq_true (by unfold HeadM; first | (simp [*]; done) | (simp [*]; omega))).symm
                  · refine TL_grun rfl rfl ?_
                    refine TL_y rfl rfl (Y_field_addr rfl) ?_
                    refine TL_grun rfl rfl ?_
                    refine TL_y rfl rfl (Y_load rfl rfl) ?_
                    refine TL_grun rfl rfl ?_
                    refine TL_y rfl rfl (Y_len rfl) ?_
                    refine TL_grun rfl rfl ?_
                    refine TL_y rfl rfl (Y_gt rfl rfl) ?_
                    refine TL_y rfl rfl (Y_pick_f rfl rfl) ?_
                    refine TL_y rfl rfl (Y_move rfl) ?_
                    refine TL_splitd 57 rfl (fun h57 => ?_) (fun h57 => ?_)
                    · refine TL_gskip rfl rfl rfl rfl ?_
                      refine TL_gskip rfl rfl rfl rfl ?_
                      refine TL_gskip rfl rfl rfl rfl ?_
                      refine TL_gskip rfl rfl rfl rfl ?_
                      refine TL_y rfl rfl (Y_pick_t rfl rfl) ?_
                      refine TL_chain_end rfl ?_ (by repeat (first | exact sub_refl | refine sub_ext rfl ?_)) GivesTo.g
                      exact congrArg Value.bool (decide_eq_true (by unfold HeadM; first | (simp [*]; done) | (simp [*]; omega))).symm
                    · refine TL_grun rfl rfl ?_
                      refine TL_y rfl rfl (Y_field_addr rfl) ?_
                      refine TL_grun rfl rfl ?_
                      refine TL_y rfl rfl (Y_load rfl rfl) ?_
                      refine TL_grun rfl rfl ?_
                      refine TL_call rfl rfl (refTo_spec _ _ _) ?_
                      rintro _ _ ⟨rfl, rfl⟩
                      refine TL_grun rfl rfl ?_
                      refine TL_y rfl rfl (Y_not_d rfl) ?_
                      refine TL_y rfl rfl (Y_pick_f rfl rfl) ?_
                      refine TL_chain_end rfl ?_ (by repeat (first | exact sub_refl | refine sub_ext rfl ?_)) GivesTo.g
                      exact congrArg Value.bool (decide_eq_decide.2 (not_congr ⟨fun h => ⟨Classical.not_not.1 h9, Classical.not_not.1 h15, Classical.not_not.1 h21, Classical.not_not.1 h27, Classical.not_not.1 h33, Classical.not_not.1 h39, by omega, Classical.not_not.1 h51, by omega, h⟩, fun h => h.2.2.2.2.2.2.2.2.2⟩))
  refine TL_nil ?_
  refine T_if rfl (fun h62 => ?_) (fun h62 => ?_)
  · refine T_region ?_
    refine TL_y rfl rfl (Y_assign rfl) ?_
    refine TL_nil ?_
    refine T_ret ?_
    refine thenS_ret ?_
    exact RetG_1 (.inl rfl) rfl (ResV.tmp rfl) GivesTo.g (⟨by rw [decide_eq_false]; intro h; exact h62 (head_msg.1 h).1, rfl⟩)
  · refine T_skip ?_
    refine thenS_normal ?_
    refine T_seq ?_
    refine T_region ?_
    refine TL_y rfl rfl (Y_assign rfl) ?_
    refine TL_nil ?_
    refine T_block ?_
    refine T_loopK (σ := Nat) [1] (fun i => i ≤ m.voted.length ∧ ∀ v ∈ m.voted.take i, rVoted v) (fun i kv => (3, .int .i64 (i : Int)) :: kv) (fun i => cells b1 (msgC m p) 44 :: mL m p L) (fun i => m.voted.length - i) (0) rfl (⟨Nat.zero_le _, by simp⟩) (GivesTo.g) (sub_cons rfl (sub_cons rfl (sub_nil))) ?_
    intro i hi
    refine T_seq ?_
    refine T_region ?_
    refine TL_y rfl rfl (Y_move rfl) ?_
    refine TL_y rfl rfl (Y_field_addr rfl) ?_
    refine TL_y rfl rfl (Y_load rfl rfl) ?_
    refine TL_y rfl rfl (Y_len rfl) ?_
    refine TL_y rfl rfl (Y_lt rfl rfl) ?_
    refine TL_nil ?_
    refine T_if rfl (fun h67 => ?_) (fun h67 => ?_)
    · refine T_skip ?_
      refine thenS_normal ?_
      refine T_seq ?_
      refine T_block ?_
      refine T_region ?_
      refine TL_y rfl rfl (Y_field_addr rfl) ?_
      refine TL_y rfl rfl (Y_load rfl rfl) ?_
      refine TL_y rfl rfl (Y_move rfl) ?_
      obtain ⟨u, hu⟩ : ∃ u, m.voted[i]? = some u := ⟨_, List.getElem?_eq_getElem (by omega)⟩
      refine TL_index_n rfl rfl rfl (rfl) (sln) (hu) ?_
      intro bn73 on73 hA73 hk73
      have hu73 := hu
      refine TL_y rfl rfl (Y_field_addr2 rfl) ?_
      refine TL_y rfl rfl (Y_load_nx rfl hk73 hu73 (fun _ => rfl)) ?_
      refine TL_call rfl rfl (refTo_spec _ _ _) ?_
      rintro _ _ ⟨rfl, rfl⟩
      refine TL_y rfl rfl (Y_not_d rfl) ?_
      refine TL_y rfl rfl (Y_move rfl) ?_
      refine TL_splitd 78 rfl (fun h78 => ?_) (fun h78 => ?_)
      · refine TL_gskip rfl rfl rfl rfl ?_
        refine TL_gskip rfl rfl rfl rfl ?_
        refine TL_gskip rfl rfl rfl rfl ?_
        refine TL_gskip rfl rfl rfl rfl ?_
        refine TL_gskip rfl rfl rfl rfl ?_
        refine TL_gskip rfl rfl rfl rfl ?_
        refine TL_gskip rfl rfl rfl rfl ?_
        refine TL_gskip rfl rfl rfl rfl ?_
        refine TL_y rfl rfl (Y_pick_t rfl rfl) ?_
        refine TL_y rfl rfl (Y_move rfl) ?_
        refine TL_gskip rfl rfl rfl rfl ?_
        refine TL_gskip rfl rfl rfl rfl ?_
        refine TL_gskip rfl rfl rfl rfl ?_
        refine TL_gskip rfl rfl rfl rfl ?_
        refine TL_gskip rfl rfl rfl rfl ?_
        refine TL_gskip rfl rfl rfl rfl ?_
        refine TL_gskip rfl rfl rfl rfl ?_
        refine TL_gskip rfl rfl rfl rfl ?_
        refine TL_y rfl rfl (Y_pick_t rfl rfl) ?_
        refine TL_nil ?_
        refine T_cond_true rfl ?_
        refine T_region ?_
        refine TL_y rfl rfl (Y_assign rfl) ?_
        refine TL_nil ?_
        refine T_ret ?_
        refine inB_ret ?_
        refine thenS_ret ?_
        refine thenS_ret ?_
        refine inB_ret ?_
        refine thenS_ret ?_
        exact RetG_1 (.inl rfl) rfl (ResV.tmp rfl) GivesTo.g (⟨by rw [decide_eq_false]; intro h; exact h78 ((head_msg.1 h).2.1 u (List.mem_of_getElem? hu)).1, rfl⟩)
      · refine TL_grun rfl rfl ?_
        refine TL_y rfl rfl (Y_field_addr rfl) ?_
        refine TL_grun rfl rfl ?_
        refine TL_y rfl rfl (Y_load rfl rfl) ?_
        refine TL_grun rfl rfl ?_
        refine TL_y rfl rfl (Y_move rfl) ?_
        refine TL_grun rfl rfl ?_
        refine TL_index_n rfl rfl rfl (rfl) (sln) (hu) ?_
        intro bn82 on82 hA82 hk82
        have hu82 := hu
        refine TL_grun rfl rfl ?_
        refine TL_y rfl rfl (Y_field_addr2 rfl) ?_
        refine TL_grun rfl rfl ?_
        refine TL_load_nx rfl rfl hk82 hu82 (fun _ => rfl) ?_
        intro p84 ok84
        simp only [List.cons_append, List.nil_append]
        refine TL_grun rfl rfl ?_
        refine TL_call rfl rfl (rightBallot_spec _ u.bal) ?_
        rintro _ _ ⟨rfl, rfl⟩
        refine TL_grun rfl rfl ?_
        refine TL_y rfl rfl (Y_not_d rfl) ?_
        refine TL_y rfl rfl (Y_pick_f rfl rfl) ?_
        refine TL_y rfl rfl (Y_move rfl) ?_
        refine TL_splitd 88 rfl (fun h88 => ?_) (fun h88 => ?_)
        · refine TL_gskip rfl rfl rfl rfl ?_
          refine TL_gskip rfl rfl rfl rfl ?_
          refine TL_gskip rfl rfl rfl rfl ?_
          refine TL_gskip rfl rfl rfl rfl ?_
          refine TL_gskip rfl rfl rfl rfl ?_
          refine TL_gskip rfl rfl rfl rfl ?_
          refine TL_gskip rfl rfl rfl rfl ?_
          refine TL_gskip rfl rfl rfl rfl ?_
          refine TL_y rfl rfl (Y_pick_t rfl rfl) ?_
          refine TL_nil ?_
          refine T_cond_true rfl ?_
          refine T_region ?_
          refine TL_y rfl rfl (Y_assign rfl) ?_
          refine TL_nil ?_
          refine T_ret ?_
          refine inB_ret ?_
          refine thenS_ret ?_
          refine thenS_ret ?_
          refine inB_ret ?_
          refine thenS_ret ?_
          exact RetG_1 (.inl rfl) rfl (ResV.tmp rfl) GivesTo.g (⟨by rw [decide_eq_false]; intro h; exact h88 ((head_msg.1 h).2.1 u (List.mem_of_getElem? hu)).2.1, rfl⟩)
        · refine TL_grun rfl rfl ?_
          refine TL_y rfl rfl (Y_field_addr rfl) ?_
          refine TL_grun rfl rfl ?_
          refine TL_y rfl rfl (Y_load rfl rfl) ?_
          refine TL_grun rfl rfl ?_
          refine TL_y rfl rfl (Y_move rfl) ?_
          refine TL_grun rfl rfl ?_
          refine TL_index_n rfl rfl rfl (rfl) (sln) (hu) ?_
          intro bn92 on92 hA92 hk92
          have hu92 := hu
          refine TL_grun rfl rfl ?_
          refine TL_y rfl rfl (Y_field_addr2 rfl) ?_
          refine TL_grun rfl rfl ?_
          refine TL_load_nx rfl rfl hk92 hu92 (fun _ => rfl) ?_
          intro p94 ok94
          simp only [List.cons_append, List.nil_append]
          refine TL_grun rfl rfl ?_
          refine TL_call rfl rfl (rightEntry_spec u.en ok94.2.2.2 slk) ?_
          rintro _ _ ⟨rfl, rfl⟩
          refine TL_grun rfl rfl ?_
          refine TL_y rfl rfl (Y_not_d rfl) ?_
          refine TL_y rfl rfl (Y_pick_f rfl rfl) ?_
          refine TL_nil ?_
          refine T_if rfl (fun h97 => ?_) (fun h97 => ?_)
          · refine T_region ?_
            refine TL_y rfl rfl (Y_assign rfl) ?_
            refine TL_nil ?_
            refine T_ret ?_
            refine inB_ret ?_
            refine thenS_ret ?_
            refine thenS_ret ?_
            refine inB_ret ?_
            refine thenS_ret ?_
            exact RetG_1 (.inl rfl) rfl (ResV.tmp rfl) GivesTo.g (⟨by rw [decide_eq_false]; intro h; exact h97 ((head_msg.1 h).2.1 u (List.mem_of_getElem? hu)).2.2, rfl⟩)
          · refine T_skip ?_
            refine inB_normal ?_
            refine thenS_normal ?_
            refine T_region_last ?_
            refine TL_y rfl rfl (Y_move rfl) ?_
            refine TL_y rfl rfl (Y_add rfl rfl (by omega)) ?_
            refine TL_name 69 (v' := .int .i64 ((i + 1 : Nat) : Int)) rfl (rfl) ?_
            refine TL_y rfl rfl (Y_assign rfl) ?_
            refine TL_nil ?_
            refine thenS_normal ?_
            exact ⟨i + 1, ⟨by omega, by rw [take_at hu]; intro n hn; rcases List.mem_append.1 hn with h | h; exact hi.2 n h; (simp at h; subst h; exact ⟨Classical.not_not.1 h78, Classical.not_not.1 h88, Classical.not_not.1 h97⟩)⟩, by omega, holds_to (sub_cons rfl (sub_cons rfl (sub_nil))) GivesTo.g⟩
    · refine T_exit ?_
      refine thenS_exit ?_
      refine thenS_exit ?_
      refine inB_hit ?_
      refine thenS_normal ?_
      refine T_seq ?_
      have hav : ∀ v ∈ m.voted, rVoted v := by have := hi.2; rwa [List.take_of_length_le (by omega)] at this
      refine T_region ?_
      refine TL_y rfl rfl (Y_assign rfl) ?_
      refine TL_nil ?_
      refine T_block ?_
      refine T_loopK (σ := Nat) [1] (fun j => j ≤ m.events.length ∧ ∀ v ∈ m.events.take j, rEvent v) (fun j kv => (4, .int .i64 (j : Int)) :: kv) (fun j => cells b1 (msgC m p) 44 :: mL m p L) (fun j => m.events.length - j) (0) rfl (⟨Nat.zero_le _, by simp⟩) (GivesTo.g) (sub_cons rfl (sub_cons rfl (sub_nil))) ?_
      intro j hj
      refine T_seq ?_
      refine T_region ?_
      refine TL_y rfl rfl (Y_move rfl) ?_
      refine TL_y rfl rfl (Y_field_addr rfl) ?_
      refine TL_y rfl rfl (Y_load rfl rfl) ?_
      refine TL_y rfl rfl (Y_len rfl) ?_
      refine TL_y rfl rfl (Y_lt rfl rfl) ?_
      refine TL_nil ?_
      refine T_if rfl (fun h102 => ?_) (fun h102 => ?_)
      · refine T_skip ?_
        refine thenS_normal ?_
        refine T_seq ?_
        refine T_block ?_
        refine T_region ?_
        refine TL_y rfl rfl (Y_field_addr rfl) ?_
        refine TL_y rfl rfl (Y_load rfl rfl) ?_
        refine TL_y rfl rfl (Y_move rfl) ?_
        obtain ⟨u, hu⟩ : ∃ u, m.events[j]? = some u := ⟨_, List.getElem?_eq_getElem (by omega)⟩
        refine TL_index_n rfl rfl rfl (rfl) (sln) (hu) ?_
        intro bn108 on108 hA108 hk108
        have hu108 := hu
        refine TL_load_nx rfl rfl hk108 hu108 (fun _ => rfl) ?_
        intro p109 ok109
        simp only [List.cons_append, List.nil_append]
        refine TL_call rfl rfl (rightEvent_spec u ok109 slk) ?_
        rintro _ _ ⟨rfl, rfl⟩
        refine TL_y rfl rfl (Y_not_d rfl) ?_
        refine TL_nil ?_
        refine T_if rfl (fun h111 => ?_) (fun h111 => ?_)
        · refine T_region ?_
          refine TL_y rfl rfl (Y_assign rfl) ?_
          refine TL_nil ?_
          refine T_ret ?_
          refine inB_ret ?_
          refine thenS_ret ?_
          refine thenS_ret ?_
          refine inB_ret ?_
          refine thenS_ret ?_
          exact RetG_1 (.inl rfl) rfl (ResV.tmp rfl) GivesTo.g (⟨by rw [decide_eq_false]; intro h; exact h111 ((head_msg.1 h).2.2 u (List.mem_of_getElem? hu)), rfl⟩)
        · refine T_skip ?_
          refine inB_normal ?_
          refine thenS_normal ?_
          refine T_region_last ?_
          refine TL_y rfl rfl (Y_move rfl) ?_
          refine TL_y rfl rfl (Y_add rfl rfl (by omega)) ?_
          refine TL_name 104 (v' := .int .i64 ((j + 1 : Nat) : Int)) rfl (rfl) ?_
          refine TL_y rfl rfl (Y_assign rfl) ?_
          refine TL_nil ?_
          refine thenS_normal ?_
          exact ⟨j + 1, ⟨by omega, by rw [take_at hu]; intro n hn; rcases List.mem_append.1 hn with h | h; exact hj.2 n h; (simp at h; subst h; exact Classical.not_not.1 h111)⟩, by omega, holds_to (sub_cons rfl (sub_cons rfl (sub_nil))) GivesTo.g⟩
      · refine T_exit ?_
        refine thenS_exit ?_
        refine thenS_exit ?_
        refine inB_hit ?_
        refine thenS_normal ?_
        refine T_region ?_
        refine TL_y rfl rfl (Y_assign rfl) ?_
        refine TL_nil ?_
        refine T_ret ?_
        have hae : ∀ v ∈ m.events, rEvent v := by have := hj.2; rwa [List.take_of_length_le (by omega)] at this
        exact RetG_1 (.inl rfl) rfl (ResV.tmp rfl) GivesTo.g (⟨by rw [decide_eq_true (head_msg.2 ⟨Classical.not_not.1 h62, hav, hae⟩)], rfl⟩)
end Go.SL
set_option linter.unusedVariables false
namespace Go.SL
open Go Go.Proofs
theorem cSeal_μ (x : OrderD) : cSeal x ≤ 60 * μSeal x := by unfold cSeal μSeal; omega
theorem cVoteds_μ : ∀ l : List VotedD, cVoteds l ≤ 120 * (l.map μVoted).sum
  | [] => by simp [cVoteds]
  | v :: l => by
    have h1 := cVoteds_μ l
    have h2 := cSeal_μ v.en.order
    simp only [cVoteds, List.map_cons, List.sum_cons, cVoted, μVoted, μEntry] at h1 ⊢; omega
theorem cEvents_μ : ∀ l : List EventD, cEvents l ≤ 120 * (l.map μEvent).sum
  | [] => by simp [cEvents]
  | v :: l => by
    have h1 := cEvents_μ l
    simp only [cEvents, List.map_cons, List.sum_cons, cEvent, μEvent] at h1 ⊢; omega
theorem cMsg_small {m : MsgD} {n : Nat} (h : μMsg m ≤ n) (hn : n ≤ 1048576) : cMsg m ≤ 140737488355328 := by
  have h1 := cVoteds_μ m.voted
  have h2 := cEvents_μ m.events
  have h3 := cSeal_μ m.en.order
  unfold μMsg μEntry at h; unfold cMsg; omega
end Go.SL
set_option linter.unusedVariables false
set_option linter.unusedSimpArgs false
namespace Go.SL
open Go Go.Proofs
def PartRes {α : Type} (ok iv : α → Prop) (b : α → List Int) (bs : List Int) (e : Int) : Prop := ∃ x s', RdR ok iv b (rs0 bs) x s' ∧ ((e = 0 ∧ s'.bad = false) ∨ (e = 10 ∧ s'.bad = true))
theorem bNum_pos (n : Int) : 0 < (bNum n).length := grp_pos _
theorem bMsg_pos (m : MsgD) : 0 < (bMsg m).length := by have := bNum_pos m.kind; unfold bMsg; simp only [List.length_append]; omega
end Go.SL
set_option linter.unusedVariables false
set_option linter.unusedSimpArgs false
namespace Go.SL
open Go Go.Proofs
theorem rec_none {s : AccD} {m : MsgD} : recA s m = ⟨#[]⟩ ↔ ¬ (mineA s m ∧ ¬ nackA s m ∧ chgA s m) := by
  unfold recA
  by_cases h : mineA s m ∧ ¬ nackA s m ∧ chgA s m
  · rw [if_pos h]
    refine ⟨fun e => ?_, fun e => absurd h e⟩
    have h1 := congrArg ByteArray.size e
    rw [strOfNums_size, (out_msg h.1.1).2] at h1
    have h2 := bMsg_pos m
    have h3 : ByteArray.size ⟨#[]⟩ = 0 := rfl
    omega
  · rw [if_neg h]
    exact ⟨fun _ => h, fun _ => rfl⟩
def UnderP (s : AccD) : Prop := ∀ v ∈ s.V, ¬ 0 < cmpB v.bal s.prom
theorem cmpB_self (a : Int × Int) : cmpB a a = 0 := cmpB_zero.2 rfl
theorem cmpB_le {a b c : Int × Int} (h : ¬ 0 < cmpB a b) (k : ¬ cmpB c b < 0) : ¬ 0 < cmpB a c := by
  have e1 : ¬ cmpB b a < 0 := by rw [cmpB_neg b a]; omega
  have e2 : ¬ cmpB c a < 0 := by rw [cmpB_lt] at *; omega
  rw [cmpB_neg a c]; omega
theorem UnderP.step {s : AccD} (h : UnderP s) (m : MsgD) : UnderP (stA s m) := by
  unfold stA
  split
  · rename_i hc
    have hle : ¬ cmpB m.bal s.prom < 0 := fun e => hc.2 (.inl e)
    have hold : ∀ v ∈ s.V, ¬ 0 < cmpB v.bal m.bal := fun v hv => cmpB_le (h v hv) hle
    by_cases hk : m.kind = 1
    · rw [if_pos hk]; exact hold
    · rw [if_neg hk]
      intro v hv
      rcases put_mem.1 hv with rfl | ⟨hv, _⟩
      · show ¬ 0 < cmpB m.bal m.bal
        rw [cmpB_self]; omega
      · exact hold v hv
  · exact h
theorem UnderP.new (n : Int) : UnderP (acNew n) := fun v hv => by cases hv
theorem msgK_nil {m : MsgD} {L : List HP} (h1 : m.en.order.cut = []) (h2 : m.voted = []) (h3 : m.seen = []) (h4 : m.events = []) : MsgK L m mP0 := ⟨by rw [h1]; exact slnil, by rw [h2]; exact slnil, by rw [h3]; exact slnil, by rw [h4]; exact slnil⟩
abbrev lm1 : MsgD := ⟨1, 0, 1, (2, 0), 0, noopE, [], [], [], 0⟩
abbrev lm2 : MsgD := ⟨3, 2, 1, (1, 2), 0, noopE, [], [], [], 0⟩
abbrev lm3 : MsgD := ⟨3, 0, 1, (2, 0), 3, noopE, [], [], [], 0⟩
abbrev ls1 : AccD := ⟨1, (2, 0), []⟩
theorem noopOk : orderOk' noopE.order := ⟨by decide, by decide, by decide, by decide⟩
theorem smallOk {m : MsgD} (h : 0 ≤ m.kind ∧ m.kind ≤ 255 ∧ 0 ≤ m.frm ∧ m.frm ≤ 255 ∧ 0 ≤ m.to_ ∧ m.to_ ≤ 255 ∧ 0 ≤ m.bal.1 ∧ m.bal.1 ≤ 2147483648 ∧ 0 ≤ m.bal.2 ∧ m.bal.2 ≤ 255 ∧ 0 ≤ m.slot ∧ m.slot ≤ 2147483648 ∧ 0 ≤ m.time ∧ m.time ≤ 255) (he : orderOk' m.en.order) : MsgOk m := ⟨i64In_mk (by omega), i64In_mk (by omega), i64In_mk (by omega), i64In_mk (by omega), i64In_mk (by omega), i64In_mk (by omega), he, i64In_mk (by omega)⟩
theorem lm1_ok : MsgOk lm1 := smallOk (by decide) noopOk
theorem lm2_ok : MsgOk lm2 := smallOk (by decide) noopOk
theorem lm3_ok : MsgOk lm3 := smallOk (by decide) noopOk
theorem lm1_m : mineA (acNew 1) lm1 := by unfold mineA; decide +kernel
theorem lm2_m : mineA ls1 lm2 := by unfold mineA; decide +kernel
theorem lm3_m : mineA ls1 lm3 := by unfold mineA; decide +kernel
theorem lm1_n : ¬ nackA (acNew 1) lm1 := by unfold nackA; decide +kernel
theorem lm2_n : nackA ls1 lm2 := .inl (by decide +kernel)
theorem lm3_n : ¬ nackA ls1 lm3 := by unfold nackA; decide +kernel
theorem lm1_r : recA (acNew 1) lm1 ≠ ⟨#[]⟩ := fun h => rec_none.1 h ⟨lm1_m, lm1_n, .inl (by decide)⟩
theorem lm2_r : recA ls1 lm2 = ⟨#[]⟩ := rec_none.2 fun h => h.2.1 lm2_n
theorem lm3_r : recA ls1 lm3 ≠ ⟨#[]⟩ := fun h => rec_none.1 h ⟨lm3_m, lm3_n, .inr ⟨rfl, by show (none : Option VotedD) ≠ _; simp⟩⟩
theorem lm1_s : stA (acNew 1) lm1 = ls1 := by unfold stA; rw [if_pos ⟨lm1_m, lm1_n⟩]; rfl
theorem lm2_s : stA ls1 lm2 = ls1 := by unfold stA; rw [if_neg (fun h => h.2 lm2_n)]
theorem lm3_s : stA ls1 lm3 = ⟨1, (2, 0), [newV lm3]⟩ := by unfold stA; rw [if_pos ⟨lm3_m, lm3_n⟩]; rfl
theorem lm1_p : repA (acNew 1) lm1 = repM (acNew 1) lm1 2 (2, 0) [] := by unfold repA; rw [if_pos lm1_m, if_neg lm1_n]; rfl
theorem lm2_p : repA ls1 lm2 = repM ls1 lm2 5 (2, 0) [] := by unfold repA; rw [if_pos lm2_m, if_pos lm2_n]
theorem lm3_p : repA ls1 lm3 = repM ls1 lm3 4 (2, 0) [] := by unfold repA; rw [if_pos lm3_m, if_neg lm3_n]; rfl
theorem lives16_spec (L : List HP) : Fn Try.prog 21 #[] L (fun v L' => v = .bool true ∧ L' = L) := by
  refine Fn_enter Try.func21 rfl rfl rfl rfl ?_
  refine T_region ?_
  refine TL_y rfl rfl (Y_assign rfl) ?_
  refine TL_nil ?_
  refine T_region ?_
  refine TL_call rfl rfl (acNew_ok 1 (by decide) _) ?_
  rintro _ _ ⟨b14, rfl, rfl⟩
  refine TL_y rfl rfl (Y_move rfl) ?_
  refine TL_y rfl rfl (Y_extract rfl rfl) ?_
  refine TL_y rfl rfl (Y_extract rfl rfl) ?_
  refine TL_y rfl rfl (Y_assign rfl) ?_
  refine TL_y rfl rfl (Y_assign rfl) ?_
  refine TL_nil ?_
  refine T_seq ?_
  refine T_region ?_
  refine TL_y rfl rfl (Y_move rfl) ?_
  refine TL_y rfl rfl (Y_ne rfl rfl) ?_
  refine TL_name 18 (v' := .bool false) rfl (congrArg Value.bool (decide_eq_false (by decide))) ?_
  refine TL_y rfl rfl (Y_move rfl) ?_
  refine TL_grun rfl rfl ?_
  refine TL_y rfl rfl (Y_move rfl) ?_
  refine TL_grun rfl rfl ?_
  refine TL_y rfl rfl (Y_equal rfl rfl (EqIs.ptr_nil)) ?_
  refine TL_name 21 (v' := .bool false) rfl (by simp) ?_
  refine TL_y rfl rfl (Y_pick_f rfl rfl) ?_
  refine TL_nil ?_
  refine T_cond_false rfl ?_
  refine T_skip ?_
  refine thenS_normal ?_
  refine T_region ?_
  refine TL_y rfl rfl (Y_build rfl rfl) ?_
  refine TL_alloc rfl rfl ?_
  intro b3
  refine TL_store rfl rfl rfl rfl rfl rfl ?_
  refine TL_nil ?_
  refine T_region ?_
  refine TL_y rfl rfl (Y_move rfl) ?_
  refine TL_y rfl rfl (Y_build rfl rfl) ?_
  refine TL_y rfl rfl (Y_load_agg rfl rfl) ?_
  refine TL_y rfl rfl (Y_build rfl rfl) ?_
  refine TL_pullk b14 ?_
  refine TL_call rfl rfl (acOn_spec (s := acNew 1) lm1 mP0 lm1_ok (msgK_nil rfl rfl rfl rfl) (by decide +kernel)) ?_
  rintro _ _ ⟨q29, rfl, rfl⟩
  rw [lm1_p, lm1_s, decide_eq_true lm1_m]
  refine TL_y rfl rfl (Y_move rfl) ?_
  refine TL_y rfl rfl (Y_extract rfl rfl) ?_
  refine TL_y rfl rfl (Y_extract rfl rfl) ?_
  refine TL_y rfl rfl (Y_extract rfl rfl) ?_
  refine TL_alloc rfl rfl ?_
  intro b4
  refine TL_store rfl rfl rfl rfl rfl rfl ?_
  refine TL_y rfl rfl (Y_assign rfl) ?_
  refine TL_y rfl rfl (Y_assign rfl) ?_
  refine TL_nil ?_
  refine T_region ?_
  refine TL_y rfl rfl (Y_move rfl) ?_
  refine TL_y rfl rfl (Y_build rfl rfl) ?_
  refine TL_y rfl rfl (Y_load_agg rfl rfl) ?_
  refine TL_y rfl rfl (Y_build rfl rfl) ?_
  refine TL_pullk b14 ?_
  refine TL_call rfl rfl (acOn_spec (s := ls1) lm2 mP0 lm2_ok (msgK_nil rfl rfl rfl rfl) (by decide +kernel)) ?_
  rintro _ _ ⟨q38, rfl, rfl⟩
  rw [lm2_p, lm2_s, lm2_r, decide_eq_true lm2_m]
  refine TL_y rfl rfl (Y_move rfl) ?_
  refine TL_y rfl rfl (Y_extract rfl rfl) ?_
  refine TL_y rfl rfl (Y_extract rfl rfl) ?_
  refine TL_y rfl rfl (Y_extract rfl rfl) ?_
  refine TL_alloc rfl rfl ?_
  intro b7
  refine TL_store rfl rfl rfl rfl rfl rfl ?_
  refine TL_y rfl rfl (Y_assign rfl) ?_
  refine TL_y rfl rfl (Y_assign rfl) ?_
  refine TL_nil ?_
  refine T_region ?_
  refine TL_y rfl rfl (Y_move rfl) ?_
  refine TL_y rfl rfl (Y_build rfl rfl) ?_
  refine TL_y rfl rfl (Y_load_agg rfl rfl) ?_
  refine TL_y rfl rfl (Y_build rfl rfl) ?_
  refine TL_pullk b14 ?_
  refine TL_call rfl rfl (acOn_spec (s := ls1) lm3 mP0 lm3_ok (msgK_nil rfl rfl rfl rfl) (by decide +kernel)) ?_
  rintro _ _ ⟨q47, rfl, rfl⟩
  rw [lm3_p, lm3_s, decide_eq_true lm3_m]
  refine TL_y rfl rfl (Y_move rfl) ?_
  refine TL_y rfl rfl (Y_extract rfl rfl) ?_
  refine TL_y rfl rfl (Y_extract rfl rfl) ?_
  refine TL_y rfl rfl (Y_extract rfl rfl) ?_
  refine TL_alloc rfl rfl ?_
  intro b10
  refine TL_store rfl rfl rfl rfl rfl rfl ?_
  refine TL_y rfl rfl (Y_assign rfl) ?_
  refine TL_y rfl rfl (Y_assign rfl) ?_
  refine TL_nil ?_
  refine T_region ?_
  refine TL_y rfl rfl (Y_move rfl) ?_
  refine TL_name 51 (v' := .bool true) rfl (rfl) ?_
  refine TL_y rfl rfl (Y_move rfl) ?_
  refine TL_grun rfl rfl ?_
  refine TL_y rfl rfl (Y_move rfl) ?_
  refine TL_name 53 (v' := .bool true) rfl (rfl) ?_
  refine TL_y rfl rfl (Y_pick_t rfl rfl) ?_
  refine TL_y rfl rfl (Y_move rfl) ?_
  refine TL_grun rfl rfl ?_
  refine TL_y rfl rfl (Y_move rfl) ?_
  refine TL_name 56 (v' := .bool true) rfl (rfl) ?_
  refine TL_y rfl rfl (Y_pick_t rfl rfl) ?_
  refine TL_y rfl rfl (Y_move rfl) ?_
  refine TL_grun rfl rfl ?_
  refine TL_y rfl rfl (Y_field_addr rfl) ?_
  refine TL_grun rfl rfl ?_
  refine TL_y rfl rfl (Y_load rfl rfl) ?_
  refine TL_grun rfl rfl ?_
  refine TL_y rfl rfl (Y_eq rfl rfl) ?_
  refine TL_name 61 (v' := .bool true) rfl (congrArg Value.bool (decide_eq_true rfl)) ?_
  refine TL_y rfl rfl (Y_pick_t rfl rfl) ?_
  refine TL_y rfl rfl (Y_move rfl) ?_
  refine TL_grun rfl rfl ?_
  refine TL_y rfl rfl (Y_move rfl) ?_
  refine TL_grun rfl rfl ?_
  refine TL_y rfl rfl (Y_str_ne rfl rfl) ?_
  refine TL_name 65 (v' := .bool true) rfl (congrArg Value.bool (decide_eq_true lm1_r)) ?_
  refine TL_y rfl rfl (Y_pick_t rfl rfl) ?_
  refine TL_y rfl rfl (Y_move rfl) ?_
  refine TL_grun rfl rfl ?_
  refine TL_y rfl rfl (Y_field_addr rfl) ?_
  refine TL_grun rfl rfl ?_
  refine TL_y rfl rfl (Y_load rfl rfl) ?_
  refine TL_grun rfl rfl ?_
  refine TL_y rfl rfl (Y_eq rfl rfl) ?_
  refine TL_name 70 (v' := .bool true) rfl (congrArg Value.bool (decide_eq_true rfl)) ?_
  refine TL_y rfl rfl (Y_pick_t rfl rfl) ?_
  refine TL_y rfl rfl (Y_move rfl) ?_
  refine TL_grun rfl rfl ?_
  refine TL_y rfl rfl (Y_move rfl) ?_
  refine TL_grun rfl rfl ?_
  refine TL_y rfl rfl (Y_str_eq rfl rfl) ?_
  refine TL_name 74 (v' := .bool true) rfl (congrArg Value.bool (decide_eq_true rfl)) ?_
  refine TL_y rfl rfl (Y_pick_t rfl rfl) ?_
  refine TL_y rfl rfl (Y_move rfl) ?_
  refine TL_grun rfl rfl ?_
  refine TL_y rfl rfl (Y_field_addr rfl) ?_
  refine TL_grun rfl rfl ?_
  refine TL_y rfl rfl (Y_field_addr rfl) ?_
  refine TL_grun rfl rfl ?_
  refine TL_y rfl rfl (Y_load rfl rfl) ?_
  refine TL_grun rfl rfl ?_
  refine TL_y rfl rfl (Y_eq rfl rfl) ?_
  refine TL_name 80 (v' := .bool true) rfl (congrArg Value.bool (decide_eq_true rfl)) ?_
  refine TL_y rfl rfl (Y_pick_t rfl rfl) ?_
  refine TL_y rfl rfl (Y_move rfl) ?_
  refine TL_grun rfl rfl ?_
  refine TL_y rfl rfl (Y_field_addr rfl) ?_
  refine TL_grun rfl rfl ?_
  refine TL_y rfl rfl (Y_load rfl rfl) ?_
  refine TL_grun rfl rfl ?_
  refine TL_y rfl rfl (Y_eq rfl rfl) ?_
  refine TL_name 85 (v' := .bool true) rfl (congrArg Value.bool (decide_eq_true rfl)) ?_
  refine TL_y rfl rfl (Y_pick_t rfl rfl) ?_
  refine TL_y rfl rfl (Y_move rfl) ?_
  refine TL_grun rfl rfl ?_
  refine TL_y rfl rfl (Y_move rfl) ?_
  refine TL_grun rfl rfl ?_
  refine TL_y rfl rfl (Y_str_ne rfl rfl) ?_
  refine TL_name 89 (v' := .bool true) rfl (congrArg Value.bool (decide_eq_true lm3_r)) ?_
  refine TL_y rfl rfl (Y_pick_t rfl rfl) ?_
  refine TL_y rfl rfl (Y_move rfl) ?_
  refine TL_grun rfl rfl ?_
  refine TL_y rfl rfl (Y_move rfl) ?_
  refine TL_grun rfl rfl ?_
  refine TL_pullk b14 ?_
  refine TL_call rfl rfl (acVotes_spec (s := ⟨1, (2, 0), [newV lm3]⟩)) ?_
  rintro _ _ ⟨A93, c93, rfl, rfl⟩
  refine TL_grun rfl rfl ?_
  refine TL_y rfl rfl (Y_len rfl) ?_
  refine TL_grun rfl rfl ?_
  refine TL_y rfl rfl (Y_eq rfl rfl) ?_
  refine TL_name 95 (v' := .bool true) rfl (congrArg Value.bool (decide_eq_true rfl)) ?_
  refine TL_y rfl rfl (Y_pick_t rfl rfl) ?_
  refine TL_y rfl rfl (Y_assign rfl) ?_
  refine TL_nil ?_
  refine T_ret ?_
  exact RetG_1 (.inl rfl) rfl (ResV.tmp rfl) GivesTo.g (⟨rfl, rfl⟩)
end Go.SL
set_option linter.unusedVariables false
set_option linter.unusedSimpArgs false
namespace Go.SL
open Go Go.Proofs
instance : IsEx msgR MsgP 15 msgC (fun m p => [sl (intR .i64) p.cut.1 p.cut.2 m.en.order.cut, sl votedR p.voted.1 p.voted.2 m.voted, sl (intR .i64) p.seen.1 p.seen.2 m.seen, sl eventR p.events.1 p.events.2 m.events]) MsgOk := ⟨_, _, rfl⟩
structure KpSt where
  i : Nat
  s : AccD
theorem inc_at {V : List VotedD} (h : IncV V) {i j : Nat} {u v : VotedD} (hu : V[i]? = some u) (hv : V[j]? = some v) (hij : i < j) : u.slot < v.slot := by
  have h1 := List.pairwise_iff_getElem.1 h i j (List.getElem?_eq_some_iff.1 hu).1 (List.getElem?_eq_some_iff.1 hv).1 hij
  rwa [(List.getElem?_eq_some_iff.1 hu).2, (List.getElem?_eq_some_iff.1 hv).2] at h1
end Go.SL
set_option linter.unusedVariables false
set_option linter.unusedSimpArgs false
namespace Go.SL
open Go Go.Proofs
abbrev pm (b : Int × Int) : MsgD := ⟨1, 0, 1, b, 0, noopE, [], [], [], 0⟩
end Go.SL
set_option linter.unusedVariables false
set_option linter.unusedSimpArgs false
namespace Go.SL
open Go Go.Proofs
end Go.SL
set_option linter.unusedVariables false
set_option linter.unusedSimpArgs false
namespace Go.SL
open Go Go.Proofs
theorem bNum_len {most n : Int} (h : rNum most n) (hm : most ≤ 4611686018427387904) : (bNum n).length ≤ 10 := by
  unfold rNum at h; exact grp_ten (x := n.toNat) (by omega)
theorem txt_len {s : ByteArray} (h : isName s) : (txt s).length ≤ 42 := by
  have h2 := h.2.2
  have := grp_ten (x := s.size) (by omega)
  rw [txt_length]; omega
theorem bAll_len {α : Type} {b : α → List Int} {k : Nat} : ∀ {l : List α}, (∀ x ∈ l, (b x).length ≤ k) → (bAll b l).length ≤ k * l.length
  | [], _ => by simp [bAll]
  | x :: l, h => by
    have h1 := h x List.mem_cons_self
    have h2 := bAll_len (l := l) (fun y hy => h y (List.mem_cons_of_mem _ hy))
    rw [bAll_cons, List.length_append, List.length_cons, Nat.mul_succ]; omega
theorem bVec_len {v : List Int} (h : rVec v) : (bVec v).length ≤ 80 := by
  have h1 := h.2.1
  have h2 := bNum_len (n := (v.length : Int)) (most := 7) (by unfold rNum; omega) (by decide)
  have h3 := bAll_len (b := bNum) (k := 10) (l := v) (fun x hx => bNum_len (h.1 x hx) (by decide))
  unfold bVec; rw [List.length_append]; omega
theorem bBal_len {a : Int × Int} (h : rBal a) : (bBal a).length ≤ 20 := by
  have h1 := bNum_len h.1 (by decide); have h2 := bNum_len h.2 (by decide)
  unfold bBal; rw [List.length_append]; omega
theorem bSeal_len {x : OrderD} (h : rSeal x) : (bSeal x).length ≤ 174 := by
  have h1 := txt_len h.1; have h2 := txt_len h.2.1; have h3 := bNum_len h.2.2.1 (by decide); have h4 := bVec_len h.2.2.2
  unfold bSeal; simp only [List.length_append]; omega
theorem bTruth_len (b : Bool) : (bTruth b).length ≤ 10 := grp_ten (by cases b <;> decide)
theorem bEntry_len {e : EntryD} (h : rEntry e) : (bEntry e).length ≤ 184 := by
  have h1 := bTruth_len e.noop
  unfold rEntry at h
  unfold bEntry
  rw [List.length_append]
  split at h
  · rename_i k; rw [if_pos k]; simp only [List.length_nil]; omega
  · rename_i k; rw [if_neg k]; have := bSeal_len h; omega
theorem bEvent_len {e : EventD} (h : rEvent e) : (bEvent e).length ≤ 214 := by
  obtain ⟨h1, h2, h3, h4, h5, h6, h7⟩ := h
  have a1 := bNum_len h1 (by decide); have a2 := bNum_len h2 (by decide); have a3 := bVec_len h3; have a4 := txt_len h4; have a5 := bNum_len h5 (by decide); have a6 := txt_len h6; have a7 := bNum_len h7 (by decide); have a8 := bTruth_len e.clears
  unfold bEvent; simp only [List.length_append]; omega
theorem bVoted_len {v : VotedD} (h : rVoted v) : (bVoted v).length ≤ 214 := by
  have a1 := bNum_len h.1 (by decide); have a2 := bBal_len h.2.1; have a3 := bEntry_len h.2.2
  unfold bVoted; simp only [List.length_append]; omega
theorem nat_of {most n : Int} (h : rNum most n) (hm : most ≤ 4611686018427387904) : IntKind.u64.wrap n = ((n.toNat : Nat) : Int) := by
  unfold rNum at h
  conv => lhs; rw [show n = ((n.toNat : Nat) : Int) by omega]
  exact u64_small (by omega)
theorem nat_lt {most n : Int} (h : rNum most n) (hm : most ≤ 4611686018427387904) : n.toNat < 18446744073709551616 := by unfold rNum at h; omega
structure LpSt1 where
  i : Nat
  A : Option Addr
  c : Nat
theorem refVec_spec {L : List HP} {A : Option Addr} {c : Nat} {xs : List Int} (hr : rVec xs) (hk : SlK L (intR .i64) A c xs) : Fn Try.prog 137 #[.slice A xs.length c] L (fun v L' => ∃ A' c', v = .slice A' (bVec xs).length c' ∧ L' = osl (intR .u8) 5 A' c' (bVec xs) :: L) := by
  have h7 := hr.2.1
  have hlen := bNum_len (n := (xs.length : Int)) (most := 7) (by unfold rNum; omega) (by decide)
  refine Fn_enter Try.func137 rfl rfl rfl rfl ?_
  refine T_gives hk.lay ?_
  refine T_region ?_
  refine TL_y rfl rfl (Y_assign rfl) ?_
  refine TL_nil ?_
  refine T_region ?_
  refine TL_y rfl rfl (Y_move rfl) ?_
  refine TL_y rfl rfl (Y_len rfl) ?_
  refine TL_y rfl rfl (Y_conv rfl) ?_
  refine TL_name 7 (v' := .int .u64 ((xs.length : Nat) : Int)) rfl (by rw [u64_small (by omega)]) ?_
  refine TL_call rfl rfl (refUint_spec xs.length (by omega) _) ?_
  rintro _ _ ⟨A8, c8, rfl, rfl⟩
  rw [show grp xs.length = bNum (xs.length : Int) ++ bAll bNum (xs.take 0) by simp [bNum, bAll]]
  refine TL_y rfl rfl (Y_assign rfl) ?_
  refine TL_nil ?_
  refine T_seq ?_
  refine T_region ?_
  refine TL_y rfl rfl (Y_assign rfl) ?_
  refine TL_nil ?_
  refine T_block ?_
  refine T_loopK (σ := LpSt1) [0] (fun g => g.i ≤ xs.length) (fun g kv => (4, .int .i64 (g.i : Int)) :: (3, .slice g.A (bNum (xs.length : Int) ++ bAll bNum (xs.take g.i)).length g.c) :: kv) (fun g => osl (intR .u8) 5 g.A g.c (bNum (xs.length : Int) ++ bAll bNum (xs.take g.i)) :: sl (intR .i64) A c xs :: L) (fun g => xs.length - g.i) (⟨0, A8, c8⟩) rfl (Nat.zero_le _) (GivesTo.g) (sub_cons rfl (sub_cons rfl (sub_cons rfl (sub_nil)))) ?_
  rintro ⟨i, A2, c2⟩ hi
  dsimp only at hi ⊢
  refine T_seq ?_
  refine T_region ?_
  refine TL_y rfl rfl (Y_move rfl) ?_
  refine TL_y rfl rfl (Y_move rfl) ?_
  refine TL_y rfl rfl (Y_len rfl) ?_
  refine TL_y rfl rfl (Y_lt rfl rfl) ?_
  refine TL_nil ?_
  refine T_if rfl (fun h12 => ?_) (fun h12 => ?_)
  · refine T_skip ?_
    refine thenS_normal ?_
    refine T_seq ?_
    refine T_block ?_
    refine T_region_last ?_
    refine TL_y rfl rfl (Y_move rfl) ?_
    refine TL_y rfl rfl (Y_move rfl) ?_
    refine TL_y rfl rfl (Y_move rfl) ?_
    obtain ⟨u, hu⟩ : ∃ u, xs[i]? = some u := ⟨_, List.getElem?_eq_getElem (by omega)⟩
    have hru := hr.1 u (List.mem_of_getElem? hu)
    have hlu := bNum_len hru (by decide)
    have hla := bAll_len (b := bNum) (k := 10) (l := xs.take i) (fun x hx => bNum_len (hr.1 x (List.mem_of_mem_take hx)) (by decide))
    have hlt : (xs.take i).length ≤ 7 := by rw [List.length_take]; omega
    refine TL_index_int rfl rfl rfl slk hu ?_
    intro hi18 bi18 oi18
    refine TL_y rfl rfl (Y_load_row rfl rfl) ?_
    refine TL_y rfl rfl (Y_conv rfl) ?_
    refine TL_name 20 (v' := .int .u64 ((u.toNat : Nat) : Int)) rfl (by rw [nat_of hru (by decide)]) ?_
    refine TL_call rfl rfl (refUint_spec u.toNat (nat_lt hru (by decide)) _) ?_
    rintro _ _ ⟨A21, c21, rfl, rfl⟩
    refine TL_freeze_osl ?_
    rw [show grp u.toNat = bNum u from rfl]
    refine TL_append rfl rfl rfl rfl rfl slk (by rw [List.length_append]; omega) ?_
    intro A22 c22
    rw [show bNum (xs.length : Int) ++ bAll bNum (xs.take i) ++ bNum u = bNum (xs.length : Int) ++ bAll bNum (xs.take (i + 1)) by rw [take_at hu, bAll_snoc, List.append_assoc]]
    refine TL_y rfl rfl (Y_assign rfl) ?_
    refine TL_nil ?_
    refine inB_normal ?_
    refine thenS_normal ?_
    refine T_region_last ?_
    refine TL_y rfl rfl (Y_move rfl) ?_
    refine TL_y rfl rfl (Y_add rfl rfl (by omega)) ?_
    refine TL_name 14 (v' := .int .i64 ((i + 1 : Nat) : Int)) rfl (rfl) ?_
    refine TL_y rfl rfl (Y_assign rfl) ?_
    refine TL_nil ?_
    refine thenS_normal ?_
    exact ⟨⟨i + 1, A22, c22⟩, (by simp only; omega), by simp only; omega, holds_to (sub_cons rfl (sub_cons rfl (sub_cons rfl (sub_nil)))) GivesTo.g⟩
  · refine T_exit ?_
    refine thenS_exit ?_
    refine thenS_exit ?_
    refine inB_hit ?_
    refine thenS_normal ?_
    refine T_region ?_
    refine TL_y rfl rfl (Y_move rfl) ?_
    refine TL_y rfl rfl (Y_assign rfl) ?_
    refine TL_nil ?_
    refine T_ret ?_
    have e : xs.take i = xs := List.take_of_length_le (by omega)
    rw [e, show bNum (xs.length : Int) ++ bAll bNum xs = bVec xs from rfl]
    exact RetG_1 (.inl rfl) rfl (ResV.tmp rfl) GivesTo.g (⟨A2, c2, rfl, rfl⟩)
theorem refBallot_spec {L : List HP} (a : Int × Int) (hr : rBal a) : Fn Try.prog 135 #[pairV a] L (fun v L' => ∃ A' c', v = .slice A' (bBal a).length c' ∧ L' = osl (intR .u8) 5 A' c' (bBal a) :: L) := by
  have h1 := bNum_len hr.1 (by decide); have h2 := bNum_len hr.2 (by decide)
  refine Fn_enter Try.func135 rfl rfl rfl rfl ?_
  refine T_region ?_
  refine TL_box rfl rfl rfl ?_
  intro b1
  refine TL_y rfl rfl (Y_assign rfl) ?_
  refine TL_nil ?_
  refine T_region_draw _ [0, 1, 3, 7, 0, 16, 48, 127, 255, 511] [] [(0, true), (1, true), (2, true), (4, true), (5, true), (6, true), (3, false), (7, false), (8, false), (9, true)] (by kernel_rfl) (by decide +kernel) (Gives.refl _) ?_
  refine TF_y rfl rfl (Y_field_addr rfl) ?_
  refine TF_y rfl rfl (Y_load rfl rfl) ?_
  refine TF_y rfl rfl (Y_conv rfl) ?_
  refine TF_name 5 (v' := .int .u64 ((a.1.toNat : Nat) : Int)) rfl (by rw [nat_of hr.1 (by decide)]) ?_
  refine TF_y rfl rfl (Y_field_addr rfl) ?_
  refine TF_y rfl rfl (Y_load rfl rfl) ?_
  refine TF_y rfl rfl (Y_conv rfl) ?_
  refine TF_name 9 (v' := .int .u64 ((a.2.toNat : Nat) : Int)) rfl (by rw [nat_of hr.2 (by decide)]) ?_
  refine TF_anchor rfl ?_
  refine TL_call rfl rfl (refUint_spec a.1.toNat (nat_lt hr.1 (by decide)) _) ?_
  rintro _ _ ⟨A6, c6, rfl, rfl⟩
  rw [show grp a.1.toNat = bNum a.1 from rfl]
  refine TF_end GivesTo.g ?_
  refine TF_anchor rfl ?_
  refine TL_call rfl rfl (refUint_spec a.2.toNat (nat_lt hr.2 (by decide)) _) ?_
  rintro _ _ ⟨A10, c10, rfl, rfl⟩
  refine TL_freeze_osl ?_
  rw [show grp a.2.toNat = bNum a.2 from rfl]
  refine TF_end GivesTo.g ?_
  refine TF_anchor rfl ?_
  refine TL_append rfl rfl rfl rfl rfl slk (by omega) ?_
  intro A11 c11
  refine TF_end GivesTo.g ?_
  refine TF_y rfl rfl (Y_assign rfl) ?_
  refine TF_nil ?_
  refine T_ret ?_
  rw [show bNum a.1 ++ bNum a.2 = bBal a from rfl]
  exact RetG_1 (.inl rfl) rfl (ResV.tmp rfl) GivesTo.g (⟨A11, c11, rfl, rfl⟩)
theorem refSealW_spec {L : List HP} {A : Option Addr} {c : Nat} (x : OrderD) (hr : rSeal x) (hk : SlK L (intR .i64) A c x.cut) : Fn Try.prog 162 #[.agg (List.toArray (orderC x (A, c)))] L (fun v L' => ∃ A' c', v = .slice A' (bSeal x).length c' ∧ L' = osl (intR .u8) 5 A' c' (bSeal x) :: L) := by
  have h1 := txt_len hr.1; have h2 := txt_len hr.2.1; have h3 := bNum_len hr.2.2.1 (by decide); have h4 := bVec_len hr.2.2.2
  have s1 := hr.1.2.2; have s2 := hr.2.1.2.2
  refine Fn_enter Try.func162 rfl rfl rfl rfl ?_
  refine T_gives hk.lay ?_
  refine T_region ?_
  refine TL_box rfl rfl rfl ?_
  intro b1
  refine TL_y rfl rfl (Y_assign rfl) ?_
  refine TL_nil ?_
  refine T_region_draw _ [0, 1, 3, 0, 8, 31, 63, 127] [] [(0, true), (1, true), (3, true), (4, true), (2, false), (5, false), (6, false), (7, true)] (by kernel_rfl) (by decide +kernel) (Gives.refl _) ?_
  refine TF_y rfl rfl (Y_field_addr rfl) ?_
  refine TF_y rfl rfl (Y_load rfl rfl) ?_
  refine TF_y rfl rfl (Y_field_addr rfl) ?_
  refine TF_y rfl rfl (Y_load rfl rfl) ?_
  refine TF_anchor rfl ?_
  refine TL_call rfl rfl (refText_spec _ x.token (by omega)) ?_
  rintro _ _ ⟨A6, c6, rfl, rfl⟩
  refine TF_end GivesTo.g ?_
  refine TF_anchor rfl ?_
  refine TL_call rfl rfl (refText_spec _ x.cart (by omega)) ?_
  rintro _ _ ⟨A9, c9, rfl, rfl⟩
  refine TL_freeze_osl ?_
  refine TF_end GivesTo.g ?_
  refine TF_anchor rfl ?_
  refine TL_append rfl rfl rfl rfl rfl slk (by omega) ?_
  intro A10 c10
  refine TF_end GivesTo.g ?_
  refine TF_y rfl rfl (Y_assign rfl) ?_
  refine TF_nil ?_
  refine T_region_draw (cells b1 (orderC x (A, c)) 25 :: []) [0, 0, 2, 6, 14, 31, 0, 64, 255, 511, 1023] [] [(0, true), (1, true), (2, true), (3, true), (6, true), (7, true), (4, false), (5, false), (8, false), (9, false), (10, true)] (by kernel_rfl) (by decide +kernel) GivesTo.g ?_
  refine TF_y rfl rfl (Y_move rfl) ?_
  refine TF_y rfl rfl (Y_field_addr rfl) ?_
  refine TF_y rfl rfl (Y_load rfl rfl) ?_
  refine TF_y rfl rfl (Y_conv rfl) ?_
  refine TF_name 14 (v' := .int .u64 ((x.epoch.toNat : Nat) : Int)) rfl (by rw [nat_of hr.2.2.1 (by decide)]) ?_
  refine TF_y rfl rfl (Y_field_addr rfl) ?_
  refine TF_y rfl rfl (Y_load rfl rfl) ?_
  refine TF_anchor rfl ?_
  refine TL_call rfl rfl (refUint_spec x.epoch.toNat (nat_lt hr.2.2.1 (by decide)) _) ?_
  rintro _ _ ⟨A15, c15, rfl, rfl⟩
  refine TL_freeze_osl ?_
  rw [show grp x.epoch.toNat = bNum x.epoch from rfl]
  refine TF_end GivesTo.g ?_
  refine TF_anchor rfl ?_
  refine TL_append rfl rfl rfl rfl rfl slk (by rw [List.length_append]; omega) ?_
  intro A16 c16
  refine TF_end GivesTo.g ?_
  refine TF_anchor rfl ?_
  refine TL_call rfl rfl (refVec_spec hr.2.2.2 slk) ?_
  rintro _ _ ⟨A19, c19, rfl, rfl⟩
  refine TL_freeze_osl ?_
  refine TF_end GivesTo.g ?_
  refine TF_anchor rfl ?_
  refine TL_append rfl rfl rfl rfl rfl slk (by simp only [List.length_append]; omega) ?_
  intro A20 c20
  rw [show txt x.token ++ txt x.cart ++ bNum x.epoch ++ bVec x.cut = bSeal x by simp [bSeal]]
  refine TF_end GivesTo.g ?_
  refine TF_y rfl rfl (Y_assign rfl) ?_
  refine TF_nil ?_
  refine T_ret ?_
  exact RetG_1 (.inl rfl) rfl (ResV.tmp rfl) GivesTo.g (⟨A20, c20, rfl, rfl⟩)
theorem grp_truth (b : Bool) : bTruth b = [if b then 1 else 0] := by cases b <;> (unfold bTruth bNum; rw [grp, if_pos (by decide)]; rfl)
theorem refTruth_spec (L : List HP) (b : Bool) : Fn Try.prog 164 #[.bool b] L (fun v L' => v = .int .u8 (if b then 1 else 0) ∧ L' = L) := by
  refine Fn_enter Try.func164 rfl rfl rfl rfl ?_
  refine T_region ?_
  refine TL_y rfl rfl (Y_assign rfl) ?_
  refine TL_nil ?_
  refine T_seq ?_
  refine T_region ?_
  refine TL_y rfl rfl (Y_move rfl) ?_
  refine TL_nil ?_
  refine T_cond rfl (fun h3 => ?_) (fun h3 => ?_)
  · refine T_region ?_
    refine TL_y rfl rfl (Y_assign rfl) ?_
    refine TL_nil ?_
    refine T_ret ?_
    refine thenS_ret ?_
    exact RetG_1 (.inl rfl) rfl (ResV.tmp rfl) GivesTo.g (⟨by rw [h3]; rfl, rfl⟩)
  · refine T_skip ?_
    refine thenS_normal ?_
    refine T_region ?_
    refine TL_y rfl rfl (Y_assign rfl) ?_
    refine TL_nil ?_
    refine T_ret ?_
    exact RetG_1 (.inl rfl) rfl (ResV.tmp rfl) GivesTo.g (⟨by rw [h3]; rfl, rfl⟩)
theorem one_u8 {L : List HP} {x : Int} (h : 0 ≤ x ∧ x ≤ 255) : Knows L (fun M => CellsOf M (intR .u8) [x] [.int .u8 x]) := one_cell (Knows.const fun M => ⟨rfl, u8In_mk h⟩)
theorem refEntry_spec {L : List HP} {A : Option Addr} {c : Nat} (e : EntryD) (hr : rEntry e) (hk : SlK L (intR .i64) A c e.order.cut) : Fn Try.prog 136 #[.agg (List.toArray (entryC e (A, c)))] L (fun v L' => ∃ A' c', v = .slice A' (bEntry e).length c' ∧ L' = osl (intR .u8) 5 A' c' (bEntry e) :: L) := by
  refine Fn_enter Try.func136 rfl rfl rfl rfl ?_
  refine T_gives hk.lay ?_
  refine T_region ?_
  refine TL_box rfl rfl rfl ?_
  intro b1
  refine TL_y rfl rfl (Y_assign rfl) ?_
  refine TL_nil ?_
  refine T_seq ?_
  refine T_region ?_
  refine TL_y rfl rfl (Y_field_addr rfl) ?_
  refine TL_y rfl rfl (Y_load rfl rfl) ?_
  refine TL_nil ?_
  refine T_cond rfl (fun h4 => ?_) (fun h4 => ?_)
  · refine T_region ?_
    refine TL_build_slice rfl rfl rfl rfl rfl rfl ?_
    intro b5
    refine TL_osl (k := 1) (intR .u8) [1] (one_u8 (by decide)) rfl (by decide) ?_
    refine TL_name 5 (v' := .slice (some ⟨b5, 0, none⟩) ([1] : List Int).length 1) rfl rfl ?_
    refine TL_y rfl rfl (Y_assign rfl) ?_
    refine TL_nil ?_
    refine T_ret ?_
    refine thenS_ret ?_
    rw [show ([1] : List Int) = bEntry e by unfold bEntry; rw [if_pos h4, h4, grp_truth]; rfl]
    exact RetG_1 (.inl rfl) rfl (ResV.tmp rfl) GivesTo.g (⟨_, _, rfl, rfl⟩)
  · refine T_skip ?_
    refine thenS_normal ?_
    refine T_region ?_
    refine TL_build_slice rfl rfl rfl rfl rfl rfl ?_
    intro b6
    refine TL_osl (k := 1) (intR .u8) [0] (one_u8 (by decide)) rfl (by decide) ?_
    refine TL_name 6 (v' := .slice (some ⟨b6, 0, none⟩) ([0] : List Int).length 1) rfl rfl ?_
    have hrs : rSeal e.order := by unfold rEntry at hr; rwa [if_neg (by simp [h4])] at hr
    have hsl := bSeal_len hrs
    refine TL_y rfl rfl (Y_field_addr rfl) ?_
    refine TL_y rfl rfl (Y_load_agg rfl rfl) ?_
    refine TL_call rfl rfl (refSealW_spec e.order hrs slk) ?_
    rintro _ _ ⟨A9, c9, rfl, rfl⟩
    refine TL_freeze_osl ?_
    refine TL_append rfl rfl rfl rfl rfl slk (by simp only [List.length_cons, List.length_nil]; omega) ?_
    intro A10 c10
    refine TL_y rfl rfl (Y_assign rfl) ?_
    refine TL_nil ?_
    refine T_ret ?_
    rw [show ([0] : List Int) ++ bSeal e.order = bEntry e by unfold bEntry; rw [if_neg (by simp [h4]), h4, grp_truth]; rfl]
    exact RetG_1 (.inl rfl) rfl (ResV.tmp rfl) GivesTo.g (⟨A10, c10, rfl, rfl⟩)
theorem refEvent_spec {L : List HP} {A : Option Addr} {c : Nat} (x : EventD) (hr : rEvent x) (hk : SlK L (intR .i64) A c x.deps) : Fn Try.prog 138 #[.agg (List.toArray (eventC x (A, c)))] L (fun v L' => ∃ A' c', v = .slice A' (bEvent x).length c' ∧ L' = osl (intR .u8) 5 A' c' (bEvent x) :: L) := by
  have hl := bEvent_len hr
  obtain ⟨r1, r2, r3, r4, r5, r6, r7⟩ := hr
  have s4 := r4.2.2; have s6 := r6.2.2
  have a1 := bNum_len r1 (by decide); have a2 := bNum_len r2 (by decide); have a3 := bVec_len r3; have a4 := txt_len r4; have a5 := bNum_len r5 (by decide); have a6 := txt_len r6; have a7 := bNum_len r7 (by decide)
  refine Fn_enter Try.func138 rfl rfl rfl rfl ?_
  refine T_gives hk.lay ?_
  refine T_region ?_
  refine TL_box rfl rfl rfl ?_
  intro b1
  refine TL_y rfl rfl (Y_assign rfl) ?_
  refine TL_nil ?_
  refine T_region_draw _ [0, 1, 3, 7, 15, 0, 32, 96, 224, 511, 1023, 2047] [] [(0, true), (1, true), (2, true), (3, true), (5, true), (6, true), (7, true), (8, true), (4, false), (9, false), (10, false), (11, true)] (by kernel_rfl) (by decide +kernel) (Gives.refl _) ?_
  refine TF_y rfl rfl (Y_field_addr rfl) ?_
  refine TF_y rfl rfl (Y_field_addr rfl) ?_
  refine TF_y rfl rfl (Y_load rfl rfl) ?_
  refine TF_y rfl rfl (Y_conv rfl) ?_
  refine TF_name 7 (v' := .int .u64 ((x.dot.1.toNat : Nat) : Int)) rfl (by rw [nat_of r1 (by decide)]) ?_
  refine TF_y rfl rfl (Y_field_addr rfl) ?_
  refine TF_y rfl rfl (Y_field_addr rfl) ?_
  refine TF_y rfl rfl (Y_load rfl rfl) ?_
  refine TF_y rfl rfl (Y_conv rfl) ?_
  refine TF_name 12 (v' := .int .u64 ((x.dot.2.toNat : Nat) : Int)) rfl (by rw [nat_of r2 (by decide)]) ?_
  refine TF_anchor rfl ?_
  refine TL_call rfl rfl (refUint_spec x.dot.1.toNat (nat_lt r1 (by decide)) _) ?_
  rintro _ _ ⟨A8, c8, rfl, rfl⟩
  rw [show grp x.dot.1.toNat = bNum x.dot.1 from rfl]
  refine TF_end GivesTo.g ?_
  refine TF_anchor rfl ?_
  refine TL_call rfl rfl (refUint_spec x.dot.2.toNat (nat_lt r2 (by decide)) _) ?_
  rintro _ _ ⟨A13, c13, rfl, rfl⟩
  refine TL_freeze_osl ?_
  rw [show grp x.dot.2.toNat = bNum x.dot.2 from rfl]
  refine TF_end GivesTo.g ?_
  refine TF_anchor rfl ?_
  refine TL_append rfl rfl rfl rfl rfl slk (by omega) ?_
  intro A14 c14
  refine TF_end GivesTo.g ?_
  refine TF_y rfl rfl (Y_assign rfl) ?_
  refine TF_nil ?_
  refine T_region_draw (cells b1 (eventC x (A, c)) 166 :: []) [0, 0, 2, 6, 15, 0, 32, 127, 255, 511] [] [(0, true), (1, true), (2, true), (5, true), (6, true), (3, false), (4, false), (7, false), (8, false), (9, true)] (by kernel_rfl) (by decide +kernel) GivesTo.g ?_
  refine TF_y rfl rfl (Y_move rfl) ?_
  refine TF_y rfl rfl (Y_field_addr rfl) ?_
  refine TF_y rfl rfl (Y_load rfl rfl) ?_
  refine TF_y rfl rfl (Y_field_addr rfl) ?_
  refine TF_y rfl rfl (Y_load rfl rfl) ?_
  refine TF_anchor rfl ?_
  refine TL_call rfl rfl (refVec_spec r3 slk) ?_
  rintro _ _ ⟨A18, c18, rfl, rfl⟩
  refine TL_freeze_osl ?_
  refine TF_end GivesTo.g ?_
  refine TF_anchor rfl ?_
  refine TL_append rfl rfl rfl rfl rfl slk (by simp only [List.length_append]; omega) ?_
  intro A19 c19
  refine TF_end GivesTo.g ?_
  refine TF_anchor rfl ?_
  refine TL_call rfl rfl (refText_spec _ x.cart (by omega)) ?_
  rintro _ _ ⟨A22, c22, rfl, rfl⟩
  refine TL_freeze_osl ?_
  refine TF_end GivesTo.g ?_
  refine TF_anchor rfl ?_
  refine TL_append rfl rfl rfl rfl rfl slk (by simp only [List.length_append]; omega) ?_
  intro A23 c23
  refine TF_end GivesTo.g ?_
  refine TF_y rfl rfl (Y_assign rfl) ?_
  refine TF_nil ?_
  refine T_region_draw (cells b1 (eventC x (A, c)) 166 :: []) [0, 0, 2, 6, 14, 31, 0, 64, 255, 511, 1023] [] [(0, true), (1, true), (2, true), (3, true), (6, true), (7, true), (4, false), (5, false), (8, false), (9, false), (10, true)] (by kernel_rfl) (by decide +kernel) GivesTo.g ?_
  refine TF_y rfl rfl (Y_move rfl) ?_
  refine TF_y rfl rfl (Y_field_addr rfl) ?_
  refine TF_y rfl rfl (Y_load rfl rfl) ?_
  refine TF_y rfl rfl (Y_conv rfl) ?_
  refine TF_name 27 (v' := .int .u64 ((x.epoch.toNat : Nat) : Int)) rfl (by rw [nat_of r5 (by decide)]) ?_
  refine TF_y rfl rfl (Y_field_addr rfl) ?_
  refine TF_y rfl rfl (Y_load rfl rfl) ?_
  refine TF_anchor rfl ?_
  refine TL_call rfl rfl (refUint_spec x.epoch.toNat (nat_lt r5 (by decide)) _) ?_
  rintro _ _ ⟨A28, c28, rfl, rfl⟩
  refine TL_freeze_osl ?_
  rw [show grp x.epoch.toNat = bNum x.epoch from rfl]
  refine TF_end GivesTo.g ?_
  refine TF_anchor rfl ?_
  refine TL_append rfl rfl rfl rfl rfl slk (by simp only [List.length_append]; omega) ?_
  intro A29 c29
  refine TF_end GivesTo.g ?_
  refine TF_anchor rfl ?_
  refine TL_call rfl rfl (refText_spec _ x.sku (by omega)) ?_
  rintro _ _ ⟨A32, c32, rfl, rfl⟩
  refine TL_freeze_osl ?_
  refine TF_end GivesTo.g ?_
  refine TF_anchor rfl ?_
  refine TL_append rfl rfl rfl rfl rfl slk (by simp only [List.length_append]; omega) ?_
  intro A33 c33
  refine TF_end GivesTo.g ?_
  refine TF_y rfl rfl (Y_assign rfl) ?_
  refine TF_nil ?_
  refine T_region_draw (cells b1 (eventC x (A, c)) 166 :: []) [0, 0, 2, 6, 14, 31, 0, 64, 255, 511, 1023, 2047] [] [(0, true), (1, true), (2, true), (3, true), (6, true), (7, true), (4, false), (5, false), (8, false), (9, false), (10, false), (11, true)] (by kernel_rfl) (by decide +kernel) GivesTo.g ?_
  refine TF_y rfl rfl (Y_move rfl) ?_
  refine TF_y rfl rfl (Y_field_addr rfl) ?_
  refine TF_y rfl rfl (Y_load rfl rfl) ?_
  refine TF_y rfl rfl (Y_conv rfl) ?_
  refine TF_name 37 (v' := .int .u64 ((x.qty.toNat : Nat) : Int)) rfl (by rw [nat_of r7 (by decide)]) ?_
  refine TF_y rfl rfl (Y_field_addr rfl) ?_
  refine TF_y rfl rfl (Y_load rfl rfl) ?_
  refine TF_anchor rfl ?_
  refine TL_call rfl rfl (refUint_spec x.qty.toNat (nat_lt r7 (by decide)) _) ?_
  rintro _ _ ⟨A38, c38, rfl, rfl⟩
  refine TL_freeze_osl ?_
  rw [show grp x.qty.toNat = bNum x.qty from rfl]
  refine TF_end GivesTo.g ?_
  refine TF_anchor rfl ?_
  refine TL_append rfl rfl rfl rfl rfl slk (by simp only [List.length_append]; omega) ?_
  intro A39 c39
  refine TF_end GivesTo.g ?_
  refine TF_anchor rfl ?_
  refine TL_call rfl rfl (refTruth_spec _ x.clears) ?_
  rintro _ _ ⟨rfl, rfl⟩
  refine TF_end GivesTo.g ?_
  refine TF_anchor rfl ?_
  refine TL_build_slice rfl rfl rfl rfl rfl rfl ?_
  intro b43
  refine TL_osl (k := 1) (intR .u8) [if x.clears then 1 else 0] (one_u8 (by split <;> decide)) rfl (by decide) ?_
  refine TL_freeze_osl ?_
  refine TL_name 43 (v' := .slice (some ⟨b43, 0, none⟩) ([if x.clears then 1 else 0] : List Int).length 1) rfl rfl ?_
  refine TF_end GivesTo.g ?_
  refine TF_anchor rfl ?_
  refine TL_append rfl rfl rfl rfl rfl slk (by simp only [List.length_append, List.length_cons, List.length_nil]; omega) ?_
  intro A44 c44
  refine TF_end GivesTo.g ?_
  refine TF_y rfl rfl (Y_assign rfl) ?_
  refine TF_nil ?_
  refine T_ret ?_
  rw [show bNum x.dot.1 ++ bNum x.dot.2 ++ bVec x.deps ++ txt x.cart ++ bNum x.epoch ++ txt x.sku ++ bNum x.qty ++ [if x.clears then 1 else 0] = bEvent x by rw [← grp_truth]; simp [bEvent]]
  exact RetG_1 (.inl rfl) rfl (ResV.tmp rfl) GivesTo.g (⟨A44, c44, rfl, rfl⟩)
end Go.SL
set_option linter.unusedVariables false
set_option linter.unusedSimpArgs false
namespace Go.SL
open Go Go.Proofs
/-- What is written ahead of the votes. -/
def bHead (m : MsgD) : List Int := bNum m.kind ++ bNum m.frm ++ bNum m.to_ ++ bBal m.bal ++ bNum m.slot ++ bEntry m.en ++ bNum (m.voted.length : Int)
theorem bMsg_split (m : MsgD) : bMsg m = bHead m ++ bAll bVoted m.voted ++ bVec m.seen ++ bNum (m.events.length : Int) ++ bAll bEvent m.events ++ bNum m.time := by simp [bMsg, bHead]
theorem refMsgW_spec {L : List HP} (m : MsgD) (p : MsgP) (hr : rMsg m) (hk : MsgK L m p) : Fn Try.prog 102 #[msgV m p] L (fun v L' => ∃ A' c', v = .slice A' (bMsg m).length c' ∧ L' = osl (intR .u8) 5 A' c' (bMsg m) :: L) := by
  obtain ⟨r1, r2, r3, r4, r5, r6, ⟨r7, r8⟩, r9, ⟨ra, rb⟩, rc⟩ := hr
  have a1 := bNum_len r1 (by decide); have a2 := bNum_len r2 (by decide); have a3 := bNum_len r3 (by decide); have a4 := bBal_len r4; have a5 := bNum_len r5 (by decide); have a6 := bEntry_len r6
  have a7 := bNum_len (n := (m.voted.length : Int)) (most := 4096) (by unfold rNum; omega) (by decide)
  have a8 := bAll_len (b := bVoted) (k := 214) (l := m.voted) (fun x hx => bVoted_len (r8 x hx))
  have a9 := bVec_len r9
  have aa := bNum_len (n := (m.events.length : Int)) (most := 4096) (by unfold rNum; omega) (by decide)
  have ab := bAll_len (b := bEvent) (k := 214) (l := m.events) (fun x hx => bEvent_len (rb x hx))
  have ac := bNum_len rc (by decide)
  refine Fn_enter Try.func102 rfl rfl rfl rfl ?_
  refine T_gives (MsgK.lay hk) ?_
  refine T_region ?_
  refine TL_box rfl rfl rfl ?_
  intro b1
  refine TL_y rfl rfl (Y_assign rfl) ?_
  refine TL_nil ?_
  refine T_region_draw _ [0, 1, 3, 7, 0, 16, 48, 127, 255, 0, 512, 1536, 4095, 8191, 16383] [] [(0, true), (1, true), (2, true), (4, true), (5, true), (6, true), (9, true), (10, true), (11, true), (3, false), (7, false), (8, false), (12, false), (13, false), (14, true)] (by kernel_rfl) (by decide +kernel) (Gives.refl _) ?_
  refine TF_y rfl rfl (Y_field_addr rfl) ?_
  refine TF_y rfl rfl (Y_load rfl rfl) ?_
  refine TF_y rfl rfl (Y_conv rfl) ?_
  refine TF_name 8 (v' := .int .u64 ((m.kind.toNat : Nat) : Int)) rfl (by rw [nat_of r1 (by decide)]) ?_
  refine TF_y rfl rfl (Y_field_addr rfl) ?_
  refine TF_y rfl rfl (Y_load rfl rfl) ?_
  refine TF_y rfl rfl (Y_conv rfl) ?_
  refine TF_name 12 (v' := .int .u64 ((m.frm.toNat : Nat) : Int)) rfl (by rw [nat_of r2 (by decide)]) ?_
  refine TF_y rfl rfl (Y_field_addr rfl) ?_
  refine TF_y rfl rfl (Y_load rfl rfl) ?_
  refine TF_y rfl rfl (Y_conv rfl) ?_
  refine TF_name 17 (v' := .int .u64 ((m.to_.toNat : Nat) : Int)) rfl (by rw [nat_of r3 (by decide)]) ?_
  refine TF_anchor rfl ?_
  refine TL_call rfl rfl (refUint_spec m.kind.toNat (nat_lt r1 (by decide)) _) ?_
  rintro _ _ ⟨A9, c9, rfl, rfl⟩
  rw [show grp m.kind.toNat = bNum m.kind from rfl]
  refine TF_end GivesTo.g ?_
  refine TF_anchor rfl ?_
  refine TL_call rfl rfl (refUint_spec m.frm.toNat (nat_lt r2 (by decide)) _) ?_
  rintro _ _ ⟨A13, c13, rfl, rfl⟩
  refine TL_freeze_osl ?_
  rw [show grp m.frm.toNat = bNum m.frm from rfl]
  refine TF_end GivesTo.g ?_
  refine TF_anchor rfl ?_
  refine TL_append rfl rfl rfl rfl rfl slk (by omega) ?_
  intro A14 c14
  refine TF_end GivesTo.g ?_
  refine TF_anchor rfl ?_
  refine TL_call rfl rfl (refUint_spec m.to_.toNat (nat_lt r3 (by decide)) _) ?_
  rintro _ _ ⟨A18, c18, rfl, rfl⟩
  refine TL_freeze_osl ?_
  rw [show grp m.to_.toNat = bNum m.to_ from rfl]
  refine TF_end GivesTo.g ?_
  refine TF_anchor rfl ?_
  refine TL_append rfl rfl rfl rfl rfl slk (by simp only [List.length_append]; omega) ?_
  intro A19 c19
  refine TF_end GivesTo.g ?_
  refine TF_y rfl rfl (Y_assign rfl) ?_
  refine TF_nil ?_
  refine T_region_draw (cells b1 (msgC m p) 44 :: []) [0, 0, 2, 6, 15, 0, 32, 96, 255, 511, 0, 1024, 4095, 8191, 16383] [] [(0, true), (1, true), (2, true), (5, true), (6, true), (7, true), (10, true), (11, true), (3, false), (4, false), (8, false), (9, false), (12, false), (13, false), (14, true)] (by kernel_rfl) (by decide +kernel) GivesTo.g ?_
  refine TF_y rfl rfl (Y_move rfl) ?_
  refine TF_y rfl rfl (Y_field_addr rfl) ?_
  refine TF_y rfl rfl (Y_load_agg rfl rfl) ?_
  refine TF_y rfl rfl (Y_field_addr rfl) ?_
  refine TF_y rfl rfl (Y_load rfl rfl) ?_
  refine TF_y rfl rfl (Y_conv rfl) ?_
  refine TF_name 27 (v' := .int .u64 ((m.slot.toNat : Nat) : Int)) rfl (by rw [nat_of r5 (by decide)]) ?_
  refine TF_y rfl rfl (Y_field_addr rfl) ?_
  refine TF_y rfl rfl (Y_load_agg rfl rfl) ?_
  refine TF_anchor rfl ?_
  refine TL_call rfl rfl (refBallot_spec m.bal r4) ?_
  rintro _ _ ⟨A23, c23, rfl, rfl⟩
  refine TL_freeze_osl ?_
  refine TF_end GivesTo.g ?_
  refine TF_anchor rfl ?_
  refine TL_append rfl rfl rfl rfl rfl slk (by simp only [List.length_append]; omega) ?_
  intro A24 c24
  refine TF_end GivesTo.g ?_
  refine TF_anchor rfl ?_
  refine TL_call rfl rfl (refUint_spec m.slot.toNat (nat_lt r5 (by decide)) _) ?_
  rintro _ _ ⟨A28, c28, rfl, rfl⟩
  refine TL_freeze_osl ?_
  rw [show grp m.slot.toNat = bNum m.slot from rfl]
  refine TF_end GivesTo.g ?_
  refine TF_anchor rfl ?_
  refine TL_append rfl rfl rfl rfl rfl slk (by simp only [List.length_append]; omega) ?_
  intro A29 c29
  refine TF_end GivesTo.g ?_
  refine TF_anchor rfl ?_
  refine TL_call rfl rfl (refEntry_spec m.en r6 slk) ?_
  rintro _ _ ⟨A32, c32, rfl, rfl⟩
  refine TL_freeze_osl ?_
  refine TF_end GivesTo.g ?_
  refine TF_anchor rfl ?_
  refine TL_append rfl rfl rfl rfl rfl slk (by simp only [List.length_append]; omega) ?_
  intro A33 c33
  refine TF_end GivesTo.g ?_
  refine TF_y rfl rfl (Y_assign rfl) ?_
  refine TF_nil ?_
  refine T_region ?_
  refine TL_y rfl rfl (Y_move rfl) ?_
  refine TL_y rfl rfl (Y_field_addr rfl) ?_
  refine TL_y rfl rfl (Y_load rfl rfl) ?_
  refine TL_y rfl rfl (Y_len rfl) ?_
  refine TL_y rfl rfl (Y_conv rfl) ?_
  refine TL_name 38 (v' := .int .u64 ((m.voted.length : Nat) : Int)) rfl (by rw [u64_small (by omega)]) ?_
  refine TL_call rfl rfl (refUint_spec m.voted.length (by omega) _) ?_
  rintro _ _ ⟨A39, c39, rfl, rfl⟩
  refine TL_freeze_osl ?_
  rw [show grp m.voted.length = bNum (m.voted.length : Int) by simp [bNum]]
  refine TL_append rfl rfl rfl rfl rfl slk (by simp only [List.length_append]; omega) ?_
  intro A40 c40
  rw [show bNum m.kind ++ bNum m.frm ++ bNum m.to_ ++ bBal m.bal ++ bNum m.slot ++ bEntry m.en ++ bNum (m.voted.length : Int) = bHead m ++ bAll bVoted (m.voted.take 0) by simp [bHead, bAll]]
  have ah : (bHead m).length ≤ 254 := by unfold bHead; simp only [List.length_append]; omega
  refine TL_y rfl rfl (Y_assign rfl) ?_
  refine TL_nil ?_
  refine T_seq ?_
  refine T_region ?_
  refine TL_y rfl rfl (Y_assign rfl) ?_
  refine TL_nil ?_
  refine T_block ?_
  refine T_loopK (σ := LpSt1) [1] (fun g => g.i ≤ m.voted.length) (fun g kv => (4, .int .i64 (g.i : Int)) :: (3, .slice g.A (bHead m ++ bAll bVoted (m.voted.take g.i)).length g.c) :: kv) (fun g => osl (intR .u8) 5 g.A g.c (bHead m ++ bAll bVoted (m.voted.take g.i)) :: cells b1 (msgC m p) 44 :: mL m p L) (fun g => m.voted.length - g.i) (⟨0, A40, c40⟩) rfl (Nat.zero_le _) (GivesTo.g) (sub_cons rfl (sub_cons rfl (sub_cons rfl (sub_nil)))) ?_
  rintro ⟨i, A2, c2⟩ hi
  dsimp only at hi ⊢
  refine T_seq ?_
  refine T_region ?_
  refine TL_y rfl rfl (Y_move rfl) ?_
  refine TL_y rfl rfl (Y_field_addr rfl) ?_
  refine TL_y rfl rfl (Y_load rfl rfl) ?_
  refine TL_y rfl rfl (Y_len rfl) ?_
  refine TL_y rfl rfl (Y_lt rfl rfl) ?_
  refine TL_nil ?_
  refine T_if rfl (fun h45 => ?_) (fun h45 => ?_)
  · refine T_skip ?_
    refine thenS_normal ?_
    refine T_seq ?_
    refine T_block ?_
    obtain ⟨u, hu⟩ : ∃ u, m.voted[i]? = some u := ⟨_, List.getElem?_eq_getElem (by omega)⟩
    have hru := r8 u (List.mem_of_getElem? hu)
    have q1 := bNum_len hru.1 (by decide)
    have q2 := bBal_len hru.2.1
    have q3 := bEntry_len hru.2.2
    have hla := bAll_len (b := bVoted) (k := 214) (l := m.voted.take i) (fun x hx => bVoted_len (r8 x (List.mem_of_mem_take hx)))
    have hlt : (m.voted.take i).length ≤ 4096 := by rw [List.length_take]; omega
    refine T_at (slk (A := p.voted.1) (c := p.voted.2)) hu fun bq oq lq haq => ?_
    refine T_ex fun pq okq => ?_
    simp only [List.cons_append, List.nil_append]
    refine T_region_draw_last (cells b1 (msgC m p) 44 :: row bq oq (votedC u pq) :: []) [0, 0, 2, 0, 14, 30, 62, 126, 254, 511, 0, 1024, 0, 7168, 15360, 31744, 65535, 131071, 0, 262144, 0, 1835008, 3932160, 8126464, 16777215, 33554431, 67108863] [] [(0, true), (1, true), (2, true), (3, true), (4, true), (5, true), (6, true), (7, true), (10, true), (11, true), (12, true), (13, true), (14, true), (15, true), (18, true), (19, true), (20, true), (21, true), (22, true), (23, true), (8, false), (9, false), (16, false), (17, false), (24, false), (25, false), (26, true)] (by kernel_rfl) (by decide +kernel) GivesTo.g ?_
    refine TF_y rfl rfl (Y_move rfl) ?_
    refine TF_y rfl rfl (Y_field_addr rfl) ?_
    refine TF_y rfl rfl (Y_load rfl rfl) ?_
    refine TF_y rfl rfl (Y_move rfl) ?_
    refine TF_y rfl rfl (Y_index_at rfl rfl (by omega) haq) ?_
    refine TF_y rfl rfl (Y_field_addr2 rfl) ?_
    refine TF_y rfl rfl (Y_load_row rfl rfl) ?_
    refine TF_y rfl rfl (Y_conv rfl) ?_
    refine TF_name 55 (v' := .int .u64 ((u.slot.toNat : Nat) : Int)) rfl (by rw [nat_of hru.1 (by decide)]) ?_
    refine TF_y rfl rfl (Y_field_addr rfl) ?_
    refine TF_y rfl rfl (Y_load rfl rfl) ?_
    refine TF_y rfl rfl (Y_move rfl) ?_
    refine TF_y rfl rfl (Y_index_at rfl rfl (by omega) haq) ?_
    refine TF_y rfl rfl (Y_field_addr2 rfl) ?_
    refine TF_y rfl rfl (Y_load_row_agg (vs := [.int .i64 u.bal.1, .int .i64 u.bal.2]) rfl rfl) ?_
    refine TF_y rfl rfl (Y_field_addr rfl) ?_
    refine TF_y rfl rfl (Y_load rfl rfl) ?_
    refine TF_y rfl rfl (Y_move rfl) ?_
    refine TF_y rfl rfl (Y_index_at rfl rfl (by omega) haq) ?_
    refine TF_y rfl rfl (Y_field_addr2 rfl) ?_
    refine TF_y rfl rfl (Y_load_row_agg (vs := entryC u.en pq) rfl rfl) ?_
    refine TF_anchor rfl ?_
    refine TL_call rfl rfl (refUint_spec u.slot.toNat (nat_lt hru.1 (by decide)) _) ?_
    rintro _ _ ⟨A56, c56, rfl, rfl⟩
    refine TL_freeze_osl ?_
    rw [show grp u.slot.toNat = bNum u.slot from rfl]
    refine TF_end GivesTo.g ?_
    refine TF_anchor rfl ?_
    refine TL_append rfl rfl rfl rfl rfl slk (by simp only [List.length_append]; omega) ?_
    intro A57 c57
    refine TF_end GivesTo.g ?_
    refine TF_anchor rfl ?_
    refine TL_call rfl rfl (refBallot_spec u.bal hru.2.1) ?_
    rintro _ _ ⟨A64, c64, rfl, rfl⟩
    refine TL_freeze_osl ?_
    refine TF_end GivesTo.g ?_
    refine TF_anchor rfl ?_
    refine TL_append rfl rfl rfl rfl rfl slk (by simp only [List.length_append]; omega) ?_
    intro A65 c65
    refine TF_end GivesTo.g ?_
    refine TF_anchor rfl ?_
    refine TL_call rfl rfl (refEntry_spec u.en hru.2.2 slk) ?_
    rintro _ _ ⟨A72, c72, rfl, rfl⟩
    refine TL_freeze_osl ?_
    refine TF_end GivesTo.g ?_
    refine TF_anchor rfl ?_
    refine TL_append rfl rfl rfl rfl rfl slk (by simp only [List.length_append]; omega) ?_
    intro A73 c73
    rw [show bHead m ++ bAll bVoted (m.voted.take i) ++ bNum u.slot ++ bBal u.bal ++ bEntry u.en = bHead m ++ bAll bVoted (m.voted.take (i + 1)) by rw [take_at hu, bAll_snoc]; simp [bVoted]]
    refine TF_end GivesTo.g ?_
    refine TF_y rfl rfl (Y_assign rfl) ?_
    refine TF_nil ?_
    refine inB_normal ?_
    refine thenS_normal ?_
    refine T_region_last ?_
    refine TL_y rfl rfl (Y_move rfl) ?_
    refine TL_y rfl rfl (Y_add rfl rfl (by omega)) ?_
    refine TL_name 47 (v' := .int .i64 ((i + 1 : Nat) : Int)) rfl (rfl) ?_
    refine TL_y rfl rfl (Y_assign rfl) ?_
    refine TL_nil ?_
    refine thenS_normal ?_
    exact ⟨⟨i + 1, A73, c73⟩, (by simp only; omega), by simp only; omega, holds_to (sub_cons rfl (sub_cons rfl (sub_cons rfl (sub_nil)))) GivesTo.g⟩
  · refine T_exit ?_
    refine thenS_exit ?_
    refine thenS_exit ?_
    refine inB_hit ?_
    refine thenS_normal ?_
    have e0 : m.voted.take i = m.voted := List.take_of_length_le (by omega)
    rw [e0]
    refine T_region_draw (cells b1 (msgC m p) 44 :: []) [0, 0, 2, 6, 15, 0, 32, 96, 224, 511, 1023, 2047] [] [(0, true), (1, true), (2, true), (5, true), (6, true), (7, true), (8, true), (3, false), (4, false), (9, false), (10, false), (11, true)] (by kernel_rfl) (by decide +kernel) GivesTo.g ?_
    refine TF_y rfl rfl (Y_move rfl) ?_
    refine TF_y rfl rfl (Y_field_addr rfl) ?_
    refine TF_y rfl rfl (Y_load rfl rfl) ?_
    refine TF_y rfl rfl (Y_field_addr rfl) ?_
    refine TF_y rfl rfl (Y_load rfl rfl) ?_
    refine TF_y rfl rfl (Y_len rfl) ?_
    refine TF_y rfl rfl (Y_conv rfl) ?_
    refine TF_name 82 (v' := .int .u64 ((m.events.length : Nat) : Int)) rfl (by rw [u64_small (by omega)]) ?_
    refine TF_anchor rfl ?_
    refine TL_call rfl rfl (refVec_spec r9 slk) ?_
    rintro _ _ ⟨A77, c77, rfl, rfl⟩
    refine TL_freeze_osl ?_
    refine TF_end GivesTo.g ?_
    refine TF_anchor rfl ?_
    refine TL_append rfl rfl rfl rfl rfl slk (by simp only [List.length_append]; omega) ?_
    intro A78 c78
    refine TF_end GivesTo.g ?_
    refine TF_anchor rfl ?_
    refine TL_call rfl rfl (refUint_spec m.events.length (by omega) _) ?_
    rintro _ _ ⟨A83, c83, rfl, rfl⟩
    refine TL_freeze_osl ?_
    rw [show grp m.events.length = bNum (m.events.length : Int) by simp [bNum]]
    refine TF_end GivesTo.g ?_
    refine TF_anchor rfl ?_
    refine TL_append rfl rfl rfl rfl rfl slk (by simp only [List.length_append]; omega) ?_
    intro A84 c84
    rw [show bHead m ++ bAll bVoted m.voted ++ bVec m.seen ++ bNum (m.events.length : Int) = bHead m ++ bAll bVoted m.voted ++ bVec m.seen ++ bNum (m.events.length : Int) ++ bAll bEvent (m.events.take 0) by simp [bAll]]
    refine TF_end GivesTo.g ?_
    refine TF_y rfl rfl (Y_assign rfl) ?_
    refine TF_nil ?_
    refine T_seq ?_
    refine T_region ?_
    refine TL_y rfl rfl (Y_assign rfl) ?_
    refine TL_nil ?_
    refine T_block ?_
    refine T_loopK (σ := LpSt1) [1] (fun g => g.i ≤ m.events.length) (fun g kv => (5, .int .i64 (g.i : Int)) :: (3, .slice g.A (bHead m ++ bAll bVoted m.voted ++ bVec m.seen ++ bNum (m.events.length : Int) ++ bAll bEvent (m.events.take g.i)).length g.c) :: kv) (fun g => osl (intR .u8) 5 g.A g.c (bHead m ++ bAll bVoted m.voted ++ bVec m.seen ++ bNum (m.events.length : Int) ++ bAll bEvent (m.events.take g.i)) :: cells b1 (msgC m p) 44 :: mL m p L) (fun g => m.events.length - g.i) (⟨0, A84, c84⟩) rfl (Nat.zero_le _) (GivesTo.g) (sub_cons rfl (sub_cons rfl (sub_cons rfl (sub_nil)))) ?_
    rintro ⟨j, A3, c3⟩ hj
    dsimp only at hj ⊢
    refine T_seq ?_
    refine T_region ?_
    refine TL_y rfl rfl (Y_move rfl) ?_
    refine TL_y rfl rfl (Y_field_addr rfl) ?_
    refine TL_y rfl rfl (Y_load rfl rfl) ?_
    refine TL_y rfl rfl (Y_len rfl) ?_
    refine TL_y rfl rfl (Y_lt rfl rfl) ?_
    refine TL_nil ?_
    refine T_if rfl (fun h89 => ?_) (fun h89 => ?_)
    · refine T_skip ?_
      refine thenS_normal ?_
      refine T_seq ?_
      refine T_block ?_
      refine T_region_last ?_
      refine TL_y rfl rfl (Y_move rfl) ?_
      refine TL_y rfl rfl (Y_field_addr rfl) ?_
      refine TL_y rfl rfl (Y_load rfl rfl) ?_
      refine TL_y rfl rfl (Y_move rfl) ?_
      obtain ⟨u, hu⟩ : ∃ u, m.events[j]? = some u := ⟨_, List.getElem?_eq_getElem (by omega)⟩
      have hru := rb u (List.mem_of_getElem? hu)
      have q1 := bEvent_len hru
      have hla := bAll_len (b := bEvent) (k := 214) (l := m.events.take j) (fun x hx => bEvent_len (rb x (List.mem_of_mem_take hx)))
      have hlt : (m.events.take j).length ≤ 4096 := by rw [List.length_take]; omega
      refine TL_index_n rfl rfl rfl (rfl) (sln) (hu) ?_
      intro bn96 on96 hA96 hk96
      have hu96 := hu
      refine TL_load_nx rfl rfl hk96 hu96 (fun _ => rfl) ?_
      intro p97 ok97
      simp only [List.cons_append, List.nil_append]
      refine TL_call rfl rfl (refEvent_spec u hru slk) ?_
      rintro _ _ ⟨A98, c98, rfl, rfl⟩
      refine TL_freeze_osl ?_
      refine TL_append rfl rfl rfl rfl rfl slk (by simp only [List.length_append]; omega) ?_
      intro A99 c99
      rw [List.append_assoc _ (bAll bEvent (m.events.take j)), show bAll bEvent (m.events.take j) ++ bEvent u = bAll bEvent (m.events.take (j + 1)) by rw [take_at hu, bAll_snoc]]
      refine TL_y rfl rfl (Y_assign rfl) ?_
      refine TL_nil ?_
      refine inB_normal ?_
      refine thenS_normal ?_
      refine T_region_last ?_
      refine TL_y rfl rfl (Y_move rfl) ?_
      refine TL_y rfl rfl (Y_add rfl rfl (by omega)) ?_
      refine TL_name 91 (v' := .int .i64 ((j + 1 : Nat) : Int)) rfl (rfl) ?_
      refine TL_y rfl rfl (Y_assign rfl) ?_
      refine TL_nil ?_
      refine thenS_normal ?_
      exact ⟨⟨j + 1, A99, c99⟩, (by simp only; omega), by simp only; omega, holds_to (sub_cons rfl (sub_cons rfl (sub_cons rfl (sub_nil)))) GivesTo.g⟩
    · refine T_exit ?_
      refine thenS_exit ?_
      refine thenS_exit ?_
      refine inB_hit ?_
      refine thenS_normal ?_
      have e1 : m.events.take j = m.events := List.take_of_length_le (by omega)
      rw [e1]
      refine T_region ?_
      refine TL_y rfl rfl (Y_move rfl) ?_
      refine TL_y rfl rfl (Y_field_addr rfl) ?_
      refine TL_y rfl rfl (Y_load rfl rfl) ?_
      refine TL_y rfl rfl (Y_conv rfl) ?_
      refine TL_name 103 (v' := .int .u64 ((m.time.toNat : Nat) : Int)) rfl (by rw [nat_of rc (by decide)]) ?_
      refine TL_call rfl rfl (refUint_spec m.time.toNat (nat_lt rc (by decide)) _) ?_
      rintro _ _ ⟨A104, c104, rfl, rfl⟩
      refine TL_freeze_osl ?_
      rw [show grp m.time.toNat = bNum m.time from rfl]
      refine TL_append rfl rfl rfl rfl rfl slk (by simp only [List.length_append]; omega) ?_
      intro A105 c105
      refine TL_y rfl rfl (Y_assign rfl) ?_
      refine TL_nil ?_
      refine T_ret ?_
      rw [← bMsg_split]
      exact RetG_1 (.inl rfl) rfl (ResV.tmp rfl) GivesTo.g (⟨A105, c105, rfl, rfl⟩)
theorem short_big (L : List HP) (A : Option Addr) (k c : Nat) (h : 65536 < k) : Fn Try.prog 101 #[.slice A k c] L (fun v L' => v = .tuple #[.slice none 0 0, .int .i64 3] ∧ L' = L) := by
  refine Fn_enter Try.func101 rfl rfl rfl rfl ?_
  refine T_region ?_
  refine TL_y rfl rfl (Y_assign rfl) ?_
  refine TL_y rfl rfl (Y_assign rfl) ?_
  refine TL_nil ?_
  refine T_seq ?_
  refine T_region ?_
  refine TL_y rfl rfl (Y_move rfl) ?_
  refine TL_y rfl rfl (Y_len rfl) ?_
  refine TL_y rfl rfl (Y_gt rfl rfl) ?_
  refine TL_name 6 (v' := .bool true) rfl (congrArg Value.bool (decide_eq_true (by omega))) ?_
  refine TL_nil ?_
  refine T_cond_true rfl ?_
  refine T_region ?_
  refine TL_y rfl rfl (Y_assign rfl) ?_
  refine TL_y rfl rfl (Y_assign rfl) ?_
  refine TL_nil ?_
  refine T_ret ?_
  refine thenS_ret ?_
  exact RetG_2 (.inl rfl) rfl (ResV.tmp rfl) (ResV.tmp rfl) GivesTo.g (⟨rfl, rfl⟩)
theorem short_ok (L : List HP) (A : Option Addr) (k c : Nat) (h : ¬ 65536 < k) : Fn Try.prog 101 #[.slice A k c] L (fun v L' => v = .tuple #[.slice A k c, .int .i64 0] ∧ L' = L) := by
  refine Fn_enter Try.func101 rfl rfl rfl rfl ?_
  refine T_region ?_
  refine TL_y rfl rfl (Y_assign rfl) ?_
  refine TL_y rfl rfl (Y_assign rfl) ?_
  refine TL_nil ?_
  refine T_seq ?_
  refine T_region ?_
  refine TL_y rfl rfl (Y_move rfl) ?_
  refine TL_y rfl rfl (Y_len rfl) ?_
  refine TL_y rfl rfl (Y_gt rfl rfl) ?_
  refine TL_name 6 (v' := .bool false) rfl (congrArg Value.bool (decide_eq_false (by omega))) ?_
  refine TL_nil ?_
  refine T_cond_false rfl ?_
  refine T_skip ?_
  refine thenS_normal ?_
  refine T_region ?_
  refine TL_y rfl rfl (Y_move rfl) ?_
  refine TL_y rfl rfl (Y_assign rfl) ?_
  refine TL_y rfl rfl (Y_assign rfl) ?_
  refine TL_nil ?_
  refine T_ret ?_
  exact RetG_2 (.inl rfl) rfl (ResV.tmp rfl) (ResV.tmp rfl) GivesTo.g (⟨rfl, rfl⟩)
theorem refMsg_spec {L : List HP} (m : MsgD) (p : MsgP) (hx : MsgOk m) (hk : MsgK L m p) : Fn Try.prog 67 #[msgV m p] L (fun v L' => outW (wMsg m ([], false)) v L L') := by
  refine Fn_enter Try.func67 rfl rfl rfl rfl ?_
  refine T_gives (MsgK.lay hk) ?_
  refine T_region ?_
  refine TL_box rfl rfl rfl ?_
  intro b1
  refine TL_y rfl rfl (Y_assign rfl) ?_
  refine TL_y rfl rfl (Y_assign rfl) ?_
  refine TL_nil ?_
  refine T_seq ?_
  refine T_region ?_
  refine TL_y rfl rfl (Y_load_agg rfl rfl) ?_
  refine TL_call rfl rfl (rightMsg_spec m p hx ⟨slk, slk, slk, slk⟩) ?_
  rintro _ _ ⟨rfl, rfl⟩
  refine TL_y rfl rfl (Y_not_d rfl) ?_
  refine TL_nil ?_
  refine T_if rfl (fun h6 => ?_) (fun h6 => ?_)
  · have hb : (wMsg m ([], false)).2 = true := by cases e : (wMsg m ([], false)).2 with | true => rfl | false => exact absurd (wMsg_bad.1 e).2 h6
    refine T_region ?_
    refine TL_y rfl rfl (Y_assign rfl) ?_
    refine TL_y rfl rfl (Y_assign rfl) ?_
    refine TL_nil ?_
    refine T_ret ?_
    refine thenS_ret ?_
    have e1 : outB (wMsg m ([], false)) = [] := by simp [outB, hb]
    have e2 : outE (wMsg m ([], false)) = 1 := by simp [outE, hb]
    unfold outW
    rw [e1, e2]
    refine RetQ.gives (osl_nil (intR .u8) 5 none _) ?_
    exact RetG_2 (.inl rfl) rfl (ResV.tmp rfl) (ResV.tmp rfl) GivesTo.g (⟨none, 0, rfl, rfl⟩)
  · have hr : rMsg m := Classical.not_not.1 h6
    have hw := wMsg_ok (s := ([], false)) rfl hr
    rw [List.nil_append] at hw
    refine T_skip ?_
    refine thenS_normal ?_
    refine T_region ?_
    refine TL_y rfl rfl (Y_load_agg rfl rfl) ?_
    refine TL_call rfl rfl (refMsgW_spec m p hr ⟨slk, slk, slk, slk⟩) ?_
    rintro _ _ ⟨A8, c8, rfl, rfl⟩
    refine Classical.byCases (p := 65536 < (bMsg m).length) (fun hlen => TL_call rfl rfl (short_big _ _ _ _ hlen) ?_) (fun hlen => TL_call rfl rfl (short_ok _ _ _ _ hlen) ?_)
    · rintro _ _ ⟨rfl, rfl⟩
      refine TL_y rfl rfl (Y_extract rfl rfl) ?_
      refine TL_y rfl rfl (Y_extract rfl rfl) ?_
      refine TL_y rfl rfl (Y_assign rfl) ?_
      refine TL_y rfl rfl (Y_assign rfl) ?_
      refine TL_nil ?_
      refine T_ret ?_
      have e1 : outB (wMsg m ([], false)) = [] := by rw [hw]; simp [outB, hlen]
      have e2 : outE (wMsg m ([], false)) = 3 := by rw [hw]; simp [outE, hlen]
      unfold outW
      rw [e1, e2]
      refine RetQ.gives (osl_nil (intR .u8) 5 none _) ?_
      exact RetG_2 (.inl rfl) rfl (ResV.tmp rfl) (ResV.tmp rfl) GivesTo.g (⟨none, 0, rfl, rfl⟩)
    · rintro _ _ ⟨rfl, rfl⟩
      refine TL_y rfl rfl (Y_extract rfl rfl) ?_
      refine TL_y rfl rfl (Y_extract rfl rfl) ?_
      refine TL_y rfl rfl (Y_assign rfl) ?_
      refine TL_y rfl rfl (Y_assign rfl) ?_
      refine TL_nil ?_
      refine T_ret ?_
      have e1 : outB (wMsg m ([], false)) = bMsg m := by rw [hw, outB, if_neg (by simp; omega)]
      have e2 : outE (wMsg m ([], false)) = 0 := by rw [hw, outE, if_neg (by simp), if_neg hlen]
      unfold outW
      rw [e1, e2]
      exact RetG_2 (.inl rfl) rfl (ResV.tmp rfl) (ResV.tmp rfl) GivesTo.g (⟨A8, c8, rfl, rfl⟩)
end Go.SL
set_option linter.unusedVariables false
set_option linter.unusedSimpArgs false
namespace Go.SL
open Go Go.Proofs
/-! ### How much a right message writes -/
/-! ### What a record tells -/
open Classical in
noncomputable def decM (x : ByteArray) : Option MsgD := if h : ∃ m, rMsg m ∧ strBytes x = bMsg m ∧ (strBytes x).length ≤ 65536 then some h.choose else none
noncomputable def replE (s : AccD) (x : ByteArray) : Int := match decM x with
  | some m => if mineA s m ∧ ¬ nackA s m then 0 else 10
  | none => 10
noncomputable def replS (s : AccD) (x : ByteArray) : AccD := match decM x with
  | some m => stA s m
  | none => s
end Go.SL
set_option linter.unusedVariables false
set_option linter.unusedSimpArgs false
namespace Go.SL
open Go Go.Proofs
structure LsSt where
  i : Nat
  n : Nat
  s : AccD
  t : AccD
end Go.SL
set_option linter.unusedVariables false
set_option linter.unusedSimpArgs false
namespace Go.SL
open Go Go.Proofs
abbrev raF (b : Nat) (s : AccD) (p : Option Addr × Nat) : List HP := [cells b [.int .i64 s.node, .int .i64 s.prom.1, .int .i64 s.prom.2, .slice p.1 s.V.length p.2] 64, osl votedR 50 p.1 p.2 s.V]
def ra (b : Nat) (s : AccD) : HP := exH (raF b s)
instance findK_ra {L : List HP} {b : Nat} {s : AccD} : FindK (ra b s :: L) b (ra b s) L := ⟨Gives.refl _⟩
section
variable {r : Option Nat} {n : Nat} {P : Program} {ops : Array Oper} {rest : List Oper} {K : St → Prop} {Q : Exit → St → Prop} {D : List Deferred} {E : Env} {L L' : List HP} {b : Nat} {s : AccD}
theorem T_ra {c : Code} (h : ∀ A c', s.V.length ≤ c' ∧ s.V.length ≤ maxEl → T r n P c ⟨D, E, cells b [.int .i64 s.node, .int .i64 s.prom.1, .int .i64 s.prom.2, .slice A s.V.length c'] 64 :: osl votedR 50 A c' s.V :: L⟩ Q) : T r n P c ⟨D, E, ra b s :: L⟩ Q := T_exH (f := raF b s) fun p => T_fact (Knows.tail osl_len) (fun _ h => h) (h p.1 p.2)
theorem TL_ra (h : ∀ A c', s.V.length ≤ c' ∧ s.V.length ≤ maxEl → TL r n P ops rest ⟨D, E, cells b [.int .i64 s.node, .int .i64 s.prom.1, .int .i64 s.prom.2, .slice A s.V.length c'] 64 :: osl votedR 50 A c' s.V :: L⟩ K) : TL r n P ops rest ⟨D, E, ra b s :: L⟩ K := TL_exH (f := raF b s) fun p => TL_fact (Knows.tail osl_len) (fun _ h => h) (h p.1 p.2)
theorem ra_close {A : Option Addr} {c : Nat} {L1 L2 : List HP} (b : Nat) (s : AccD) [h1 : FindC L b [.int .i64 s.node, .int .i64 s.prom.1, .int .i64 s.prom.2, .slice A s.V.length c] 64 L1] [h2 : FindO L1 A c VotedD votedR 50 s.V L2] : Gives L (ra b s :: L2) :=
  (h1.g.trans (Gives.cons _ h2.g)).trans (exH_close (f := raF b s) (A, c))
end
theorem refAcNew_ok (n : Int) (h : 0 ≤ n ∧ n ≤ 6) (L : List HP) : Fn Try.prog 27 #[.int .i64 n] L (fun v L' => ∃ b, v = .tuple #[.pointer (some ⟨b, 0, none⟩), .int .i64 0] ∧ L' = ra b (acNew n) :: L) := by
  refine Fn_enter Try.func27 rfl rfl rfl rfl ?_
  refine T_region ?_
  refine TL_y rfl rfl (Y_assign rfl) ?_
  refine TL_y rfl rfl (Y_assign rfl) ?_
  refine TL_nil ?_
  refine T_seq ?_
  refine T_region ?_
  refine TL_y rfl rfl (Y_move rfl) ?_
  refine TL_y rfl rfl (Y_lt rfl rfl) ?_
  refine TL_name 5 (v' := .bool false) rfl (congrArg Value.bool (decide_eq_false (by omega))) ?_
  refine TL_y rfl rfl (Y_move rfl) ?_
  refine TL_grun rfl rfl ?_
  refine TL_y rfl rfl (Y_move rfl) ?_
  refine TL_grun rfl rfl ?_
  refine TL_y rfl rfl (Y_gt rfl rfl) ?_
  refine TL_name 8 (v' := .bool false) rfl (congrArg Value.bool (decide_eq_false (by omega))) ?_
  refine TL_y rfl rfl (Y_pick_f rfl rfl) ?_
  refine TL_nil ?_
  refine T_cond_false rfl ?_
  refine T_skip ?_
  refine thenS_normal ?_
  refine T_region ?_
  refine TL_y rfl rfl (Y_move rfl) ?_
  refine TL_y rfl rfl (Y_build rfl rfl) ?_
  refine TL_box rfl rfl rfl ?_
  intro b12
  refine TL_y rfl rfl (Y_assign rfl) ?_
  refine TL_y rfl rfl (Y_assign rfl) ?_
  refine TL_nil ?_
  refine T_ret ?_
  refine RetQ.gives (osl_nil votedR 50 none _) ?_
  refine RetQ.gives (ra_close (A := none) (c := 0) b12 (acNew n)) ?_
  exact RetG_2 (.inl rfl) rfl (ResV.tmp rfl) (ResV.tmp rfl) GivesTo.g (⟨b12, rfl, rfl⟩)
theorem refAcNew_bad (n : Int) (h : ¬ (0 ≤ n ∧ n ≤ 6)) (L : List HP) : Fn Try.prog 27 #[.int .i64 n] L (fun v L' => v = .tuple #[.pointer none, .int .i64 1] ∧ L' = L) := by
  refine Fn_enter Try.func27 rfl rfl rfl rfl ?_
  refine T_region ?_
  refine TL_y rfl rfl (Y_assign rfl) ?_
  refine TL_y rfl rfl (Y_assign rfl) ?_
  refine TL_nil ?_
  refine T_seq ?_
  refine T_region ?_
  refine TL_y rfl rfl (Y_move rfl) ?_
  refine TL_y rfl rfl (Y_lt rfl rfl) ?_
  refine TL_y rfl rfl (Y_move rfl) ?_
  refine TL_splitd 6 rfl (fun h6 => ?_) (fun h6 => ?_)
  · refine TL_gskip rfl rfl rfl rfl ?_
    refine TL_gskip rfl rfl rfl rfl ?_
    refine TL_y rfl rfl (Y_pick_t rfl rfl) ?_
    refine TL_nil ?_
    refine T_cond_true rfl ?_
    refine T_region ?_
    refine TL_y rfl rfl (Y_assign rfl) ?_
    refine TL_y rfl rfl (Y_assign rfl) ?_
    refine TL_nil ?_
    refine T_ret ?_
    refine thenS_ret ?_
    exact RetG_2 (.inl rfl) rfl (ResV.tmp rfl) (ResV.tmp rfl) GivesTo.g (⟨rfl, rfl⟩)
  · refine TL_grun rfl rfl ?_
    refine TL_y rfl rfl (Y_move rfl) ?_
    refine TL_grun rfl rfl ?_
    refine TL_y rfl rfl (Y_gt rfl rfl) ?_
    refine TL_name 8 (v' := .bool true) rfl (congrArg Value.bool (decide_eq_true (by omega))) ?_
    refine TL_y rfl rfl (Y_pick_f rfl rfl) ?_
    refine TL_nil ?_
    refine T_cond_true rfl ?_
    refine T_region ?_
    refine TL_y rfl rfl (Y_assign rfl) ?_
    refine TL_y rfl rfl (Y_assign rfl) ?_
    refine TL_nil ?_
    refine T_ret ?_
    refine thenS_ret ?_
    exact RetG_2 (.inl rfl) rfl (ResV.tmp rfl) (ResV.tmp rfl) GivesTo.g (⟨rfl, rfl⟩)
theorem sameEntry16_spec {L : List HP} {A B : Option Addr} {c d : Nat} (a b : EntryD) (hk : SlN L (intR .i64) A c a.order.cut) (hk2 : SlN L (intR .i64) B d b.order.cut) : Fn Try.prog 103 #[.agg (List.toArray (entryC a (A, c))), .agg (List.toArray (entryC b (B, d)))] L (fun v L' => v = .bool (decide (a = b)) ∧ L' = L) := by
  refine Fn_enter Try.func103 rfl rfl rfl rfl ?_
  refine hk.lens fun hl => ?_
  simp only [maxEl] at hl
  refine T_region ?_
  refine TL_box rfl rfl rfl ?_
  intro b2
  refine TL_box rfl rfl rfl ?_
  intro b3
  refine TL_y rfl rfl (Y_assign rfl) ?_
  refine TL_nil ?_
  refine T_seq ?_
  refine T_region ?_
  refine TL_y rfl rfl (Y_field_addr rfl) ?_
  refine TL_y rfl rfl (Y_load rfl rfl) ?_
  refine TL_y rfl rfl (Y_field_addr rfl) ?_
  refine TL_y rfl rfl (Y_load rfl rfl) ?_
  refine TL_y rfl rfl (Y_unequal rfl rfl (EqIs.bool)) ?_
  refine TL_name 10 (v' := .bool (decide (a.noop ≠ b.noop))) rfl (congrArg Value.bool (by cases a.noop <;> cases b.noop <;> rfl)) ?_
  refine TL_both 38 48 (a.noop ≠ b.noop ∨ a.order.token ≠ b.order.token ∨ a.order.cart ≠ b.order.cart ∨ a.order.epoch ≠ b.order.epoch ∨ a.order.cut.length ≠ b.order.cut.length) ?_ ?_
  · refine TL_y rfl rfl (Y_move rfl) ?_
    refine TL_splitd 11 rfl (fun h11 => ?_) (fun h11 => ?_)
    · refine TL_gskip rfl rfl rfl rfl ?_
      refine TL_gskip rfl rfl rfl rfl ?_
      refine TL_gskip rfl rfl rfl rfl ?_
      refine TL_gskip rfl rfl rfl rfl ?_
      refine TL_gskip rfl rfl rfl rfl ?_
      refine TL_gskip rfl rfl rfl rfl ?_
      refine TL_gskip rfl rfl rfl rfl ?_
      refine TL_y rfl rfl (Y_pick_t rfl rfl) ?_
      refine TL_y rfl rfl (Y_move rfl) ?_
      refine TL_gskip rfl rfl rfl rfl ?_
      refine TL_gskip rfl rfl rfl rfl ?_
      refine TL_gskip rfl rfl rfl rfl ?_
      refine TL_gskip rfl rfl rfl rfl ?_
      refine TL_gskip rfl rfl rfl rfl ?_
      refine TL_gskip rfl rfl rfl rfl ?_
      refine TL_gskip rfl rfl rfl rfl ?_
      refine TL_y rfl rfl (Y_pick_t rfl rfl) ?_
      refine TL_y rfl rfl (Y_move rfl) ?_
      refine TL_gskip rfl rfl rfl rfl ?_
      refine TL_gskip rfl rfl rfl rfl ?_
      refine TL_gskip rfl rfl rfl rfl ?_
      refine TL_gskip rfl rfl rfl rfl ?_
      refine TL_gskip rfl rfl rfl rfl ?_
      refine TL_gskip rfl rfl rfl rfl ?_
      refine TL_gskip rfl rfl rfl rfl ?_
      refine TL_y rfl rfl (Y_pick_t rfl rfl) ?_
      refine TL_y rfl rfl (Y_move rfl) ?_
      refine TL_gskip rfl rfl rfl rfl ?_
      refine TL_gskip rfl rfl rfl rfl ?_
      refine TL_gskip rfl rfl rfl rfl ?_
      refine TL_gskip rfl rfl rfl rfl ?_
      refine TL_gskip rfl rfl rfl rfl ?_
      refine TL_gskip rfl rfl rfl rfl ?_
      refine TL_gskip rfl rfl rfl rfl ?_
      refine TL_gskip rfl rfl rfl rfl ?_
      refine TL_gskip rfl rfl rfl rfl ?_
      refine TL_y rfl rfl (Y_pick_t rfl rfl) ?_
      refine TL_chain_end rfl ?_ (by repeat (first | exact sub_refl | refine sub_ext rfl ?_)) GivesTo.g
      exact congrArg Value.bool (decide_eq_true (by simp_all <;> omega)).symm
    · refine TL_grun rfl rfl ?_
      refine TL_y rfl rfl (Y_field_addr rfl) ?_
      refine TL_grun rfl rfl ?_
      refine TL_y rfl rfl (Y_field_addr rfl) ?_
      refine TL_grun rfl rfl ?_
      refine TL_y rfl rfl (Y_load rfl rfl) ?_
      refine TL_grun rfl rfl ?_
      refine TL_y rfl rfl (Y_field_addr rfl) ?_
      refine TL_grun rfl rfl ?_
      refine TL_y rfl rfl (Y_field_addr rfl) ?_
      refine TL_grun rfl rfl ?_
      refine TL_y rfl rfl (Y_load rfl rfl) ?_
      refine TL_grun rfl rfl ?_
      refine TL_y rfl rfl (Y_str_ne rfl rfl) ?_
      refine TL_y rfl rfl (Y_pick_f rfl rfl) ?_
      refine TL_y rfl rfl (Y_move rfl) ?_
      refine TL_splitd 20 rfl (fun h20 => ?_) (fun h20 => ?_)
      · refine TL_gskip rfl rfl rfl rfl ?_
        refine TL_gskip rfl rfl rfl rfl ?_
        refine TL_gskip rfl rfl rfl rfl ?_
        refine TL_gskip rfl rfl rfl rfl ?_
        refine TL_gskip rfl rfl rfl rfl ?_
        refine TL_gskip rfl rfl rfl rfl ?_
        refine TL_gskip rfl rfl rfl rfl ?_
        refine TL_y rfl rfl (Y_pick_t rfl rfl) ?_
        refine TL_y rfl rfl (Y_move rfl) ?_
        refine TL_gskip rfl rfl rfl rfl ?_
        refine TL_gskip rfl rfl rfl rfl ?_
        refine TL_gskip rfl rfl rfl rfl ?_
        refine TL_gskip rfl rfl rfl rfl ?_
        refine TL_gskip rfl rfl rfl rfl ?_
        refine TL_gskip rfl rfl rfl rfl ?_
        refine TL_gskip rfl rfl rfl rfl ?_
        refine TL_y rfl rfl (Y_pick_t rfl rfl) ?_
        refine TL_y rfl rfl (Y_move rfl) ?_
        refine TL_gskip rfl rfl rfl rfl ?_
        refine TL_gskip rfl rfl rfl rfl ?_
        refine TL_gskip rfl rfl rfl rfl ?_
        refine TL_gskip rfl rfl rfl rfl ?_
        refine TL_gskip rfl rfl rfl rfl ?_
        refine TL_gskip rfl rfl rfl rfl ?_
        refine TL_gskip rfl rfl rfl rfl ?_
        refine TL_gskip rfl rfl rfl rfl ?_
        refine TL_gskip rfl rfl rfl rfl ?_
        refine TL_y rfl rfl (Y_pick_t rfl rfl) ?_
        refine TL_chain_end rfl ?_ (by repeat (first | exact sub_refl | refine sub_ext rfl ?_)) GivesTo.g
        exact congrArg Value.bool (decide_eq_true (by simp_all <;> omega)).symm
      · refine TL_grun rfl rfl ?_
        refine TL_y rfl rfl (Y_field_addr rfl) ?_
        refine TL_grun rfl rfl ?_
        refine TL_y rfl rfl (Y_field_addr rfl) ?_
        refine TL_grun rfl rfl ?_
        refine TL_y rfl rfl (Y_load rfl rfl) ?_
        refine TL_grun rfl rfl ?_
        refine TL_y rfl rfl (Y_field_addr rfl) ?_
        refine TL_grun rfl rfl ?_
        refine TL_y rfl rfl (Y_field_addr rfl) ?_
        refine TL_grun rfl rfl ?_
        refine TL_y rfl rfl (Y_load rfl rfl) ?_
        refine TL_grun rfl rfl ?_
        refine TL_y rfl rfl (Y_str_ne rfl rfl) ?_
        refine TL_y rfl rfl (Y_pick_f rfl rfl) ?_
        refine TL_y rfl rfl (Y_move rfl) ?_
        refine TL_splitd 29 rfl (fun h29 => ?_) (fun h29 => ?_)
        · refine TL_gskip rfl rfl rfl rfl ?_
          refine TL_gskip rfl rfl rfl rfl ?_
          refine TL_gskip rfl rfl rfl rfl ?_
          refine TL_gskip rfl rfl rfl rfl ?_
          refine TL_gskip rfl rfl rfl rfl ?_
          refine TL_gskip rfl rfl rfl rfl ?_
          refine TL_gskip rfl rfl rfl rfl ?_
          refine TL_y rfl rfl (Y_pick_t rfl rfl) ?_
          refine TL_y rfl rfl (Y_move rfl) ?_
          refine TL_gskip rfl rfl rfl rfl ?_
          refine TL_gskip rfl rfl rfl rfl ?_
          refine TL_gskip rfl rfl rfl rfl ?_
          refine TL_gskip rfl rfl rfl rfl ?_
          refine TL_gskip rfl rfl rfl rfl ?_
          refine TL_gskip rfl rfl rfl rfl ?_
          refine TL_gskip rfl rfl rfl rfl ?_
          refine TL_gskip rfl rfl rfl rfl ?_
          refine TL_gskip rfl rfl rfl rfl ?_
          refine TL_y rfl rfl (Y_pick_t rfl rfl) ?_
          refine TL_chain_end rfl ?_ (by repeat (first | exact sub_refl | refine sub_ext rfl ?_)) GivesTo.g
          exact congrArg Value.bool (decide_eq_true (by simp_all <;> omega)).symm
        · refine TL_grun rfl rfl ?_
          refine TL_y rfl rfl (Y_field_addr rfl) ?_
          refine TL_grun rfl rfl ?_
          refine TL_y rfl rfl (Y_field_addr rfl) ?_
          refine TL_grun rfl rfl ?_
          refine TL_y rfl rfl (Y_load rfl rfl) ?_
          refine TL_grun rfl rfl ?_
          refine TL_y rfl rfl (Y_field_addr rfl) ?_
          refine TL_grun rfl rfl ?_
          refine TL_y rfl rfl (Y_field_addr rfl) ?_
          refine TL_grun rfl rfl ?_
          refine TL_y rfl rfl (Y_load rfl rfl) ?_
          refine TL_grun rfl rfl ?_
          refine TL_y rfl rfl (Y_ne rfl rfl) ?_
          refine TL_y rfl rfl (Y_pick_f rfl rfl) ?_
          refine TL_y rfl rfl (Y_move rfl) ?_
          refine TL_splitd 38 rfl (fun h38 => ?_) (fun h38 => ?_)
          · refine TL_gskip rfl rfl rfl rfl ?_
            refine TL_gskip rfl rfl rfl rfl ?_
            refine TL_gskip rfl rfl rfl rfl ?_
            refine TL_gskip rfl rfl rfl rfl ?_
            refine TL_gskip rfl rfl rfl rfl ?_
            refine TL_gskip rfl rfl rfl rfl ?_
            refine TL_gskip rfl rfl rfl rfl ?_
            refine TL_gskip rfl rfl rfl rfl ?_
            refine TL_gskip rfl rfl rfl rfl ?_
            refine TL_y rfl rfl (Y_pick_t rfl rfl) ?_
            refine TL_chain_end rfl ?_ (by repeat (first | exact sub_refl | refine sub_ext rfl ?_)) GivesTo.g
            exact congrArg Value.bool (decide_eq_true (by simp_all <;> omega)).symm
          · refine TL_grun rfl rfl ?_
            refine TL_y rfl rfl (Y_field_addr rfl) ?_
            refine TL_grun rfl rfl ?_
            refine TL_y rfl rfl (Y_field_addr rfl) ?_
            refine TL_grun rfl rfl ?_
            refine TL_y rfl rfl (Y_load rfl rfl) ?_
            refine TL_grun rfl rfl ?_
            refine TL_y rfl rfl (Y_len rfl) ?_
            refine TL_grun rfl rfl ?_
            refine TL_y rfl rfl (Y_field_addr rfl) ?_
            refine TL_grun rfl rfl ?_
            refine TL_y rfl rfl (Y_field_addr rfl) ?_
            refine TL_grun rfl rfl ?_
            refine TL_y rfl rfl (Y_load rfl rfl) ?_
            refine TL_grun rfl rfl ?_
            refine TL_y rfl rfl (Y_len rfl) ?_
            refine TL_grun rfl rfl ?_
            refine TL_y rfl rfl (Y_ne rfl rfl) ?_
            refine TL_y rfl rfl (Y_pick_f rfl rfl) ?_
            refine TL_chain_end rfl ?_ (by repeat (first | exact sub_refl | refine sub_ext rfl ?_)) GivesTo.g
            exact congrArg Value.bool (decide_eq_decide.2 (by simp_all <;> omega))
  refine TL_nil ?_
  refine T_if rfl (fun h48 => ?_) (fun h48 => ?_)
  · refine T_region ?_
    refine TL_y rfl rfl (Y_assign rfl) ?_
    refine TL_nil ?_
    refine T_ret ?_
    refine thenS_ret ?_
    exact RetG_1 (.inl rfl) rfl (ResV.tmp rfl) GivesTo.g (⟨by rw [decide_eq_false]; rintro rfl; simp at h48, rfl⟩)
  · simp only [not_or, Classical.not_not] at h48
    obtain ⟨q1, q2, q3, q4, q5⟩ := h48
    refine T_skip ?_
    refine thenS_normal ?_
    refine T_seq ?_
    refine T_region ?_
    refine TL_y rfl rfl (Y_assign rfl) ?_
    refine TL_nil ?_
    refine T_block ?_
    refine T_loopK (σ := Nat) [2, 3] (fun i => i ≤ a.order.cut.length ∧ a.order.cut.take i = b.order.cut.take i) (fun i kv => (5, .int .i64 (i : Int)) :: kv) (fun i => cells b3 (entryC b (B, d)) 27 :: cells b2 (entryC a (A, c)) 27 :: L) (fun i => a.order.cut.length - i) (0) rfl (⟨Nat.zero_le _, rfl⟩) (GivesTo.g) (sub_cons rfl (sub_cons rfl (sub_cons rfl (sub_nil)))) ?_
    intro i hi
    refine T_seq ?_
    refine T_region ?_
    refine TL_y rfl rfl (Y_move rfl) ?_
    refine TL_y rfl rfl (Y_field_addr rfl) ?_
    refine TL_y rfl rfl (Y_field_addr rfl) ?_
    refine TL_y rfl rfl (Y_load rfl rfl) ?_
    refine TL_y rfl rfl (Y_len rfl) ?_
    refine TL_y rfl rfl (Y_lt rfl rfl) ?_
    refine TL_nil ?_
    refine T_if rfl (fun h54 => ?_) (fun h54 => ?_)
    · refine T_skip ?_
      refine thenS_normal ?_
      refine T_seq ?_
      refine T_block ?_
      have hx := List.getElem?_eq_getElem (show i < a.order.cut.length by omega)
      have hy := List.getElem?_eq_getElem (show i < b.order.cut.length by omega)
      have hka := hk.tail (p := cells b2 (entryC a (A, c)) 27) |>.tail (p := cells b3 (entryC b (B, d)) 27)
      have hkb := hk2.tail (p := cells b2 (entryC a (A, c)) 27) |>.tail (p := cells b3 (entryC b (B, d)) 27)
      refine T_addr_n hka hx fun b1' o1 e1 => ?_
      refine T_addr_n hkb hy fun b2' o2 e2 => ?_
      subst e1
      subst e2
      refine T_region_draw _ [0, 1, 3, 0, 15, 31, 0, 64, 192, 0, 960, 1984, 4095] [] [(0, true), (1, true), (2, true), (3, true), (4, true), (5, true), (6, true), (7, true), (8, true), (9, true), (10, true), (11, true), (12, true)] (by kernel_rfl) (by decide +kernel) (Gives.refl _) ?_
      refine TF_y rfl rfl (Y_field_addr rfl) ?_
      refine TF_y rfl rfl (Y_field_addr rfl) ?_
      refine TF_y rfl rfl (Y_load rfl rfl) ?_
      refine TF_y rfl rfl (Y_move rfl) ?_
      refine TF_y rfl rfl (Y_index_n (R := intR .i64) (xs := a.order.cut) rfl rfl rfl hx) ?_
      refine TF_y rfl rfl (Y_load_n (q := 0) rfl hka hx rfl) ?_
      refine TF_y rfl rfl (Y_field_addr rfl) ?_
      refine TF_y rfl rfl (Y_field_addr rfl) ?_
      refine TF_y rfl rfl (Y_load rfl rfl) ?_
      refine TF_y rfl rfl (Y_move rfl) ?_
      refine TF_y rfl rfl (Y_index_n (R := intR .i64) (xs := b.order.cut) rfl rfl rfl hy) ?_
      refine TF_y rfl rfl (Y_load_n (q := 0) rfl hkb hy rfl) ?_
      refine TF_y rfl rfl (Y_ne rfl rfl) ?_
      refine TF_nil ?_
      refine T_if rfl (fun h69 => ?_) (fun h69 => ?_)
      · refine T_region ?_
        refine TL_y rfl rfl (Y_assign rfl) ?_
        refine TL_nil ?_
        refine T_ret ?_
        refine inB_ret ?_
        refine thenS_ret ?_
        refine thenS_ret ?_
        refine inB_ret ?_
        refine thenS_ret ?_
        exact RetG_1 (.inl rfl) rfl (ResV.tmp rfl) GivesTo.g (⟨by rw [decide_eq_false]; rintro rfl; exact h69 rfl, rfl⟩)
      · refine T_skip ?_
        refine inB_normal ?_
        refine thenS_normal ?_
        refine T_region_last ?_
        refine TL_y rfl rfl (Y_move rfl) ?_
        refine TL_y rfl rfl (Y_add rfl rfl (by omega)) ?_
        refine TL_name 56 (v' := .int .i64 ((i + 1 : Nat) : Int)) rfl (rfl) ?_
        refine TL_y rfl rfl (Y_assign rfl) ?_
        refine TL_nil ?_
        refine thenS_normal ?_
        exact ⟨i + 1, ⟨by omega, take_step hi.2 hx hy (Classical.not_not.1 h69)⟩, by omega, holds_to (sub_cons rfl (sub_cons rfl (sub_cons rfl (sub_nil)))) GivesTo.g⟩
    · refine T_exit ?_
      refine thenS_exit ?_
      refine thenS_exit ?_
      refine inB_hit ?_
      refine thenS_normal ?_
      refine T_region ?_
      refine TL_y rfl rfl (Y_assign rfl) ?_
      refine TL_nil ?_
      refine T_ret ?_
      exact RetG_1 (.inl rfl) rfl (ResV.tmp rfl) GivesTo.g (⟨by rw [decide_eq_true (entry_eq.2 ⟨q1, order_eq.2 ⟨q2, q3, q4, take_all hi.2 (by omega) (by omega)⟩⟩)], rfl⟩)
theorem refAbove16_spec {L : List HP} {b : Nat} {s : AccD} (hlen : s.V.length ≤ 4096) (slot : Int) : Fn Try.prog 33 #[.pointer (some ⟨b, 0, none⟩), .int .i64 slot] (ra b s :: L) (fun v L' => ∃ A c, v = .slice A (aboveV s.V slot).length c ∧ L' = osl votedR 50 A c (aboveV s.V slot) :: ra b s :: L) := by
  refine Fn_enter Try.func33 rfl rfl rfl rfl ?_
  refine T_ra fun A c hlc => ?_
  refine T_region ?_
  refine TL_y rfl rfl (Y_assign rfl) ?_
  refine TL_nil ?_
  refine T_region ?_
  refine TL_y rfl rfl (Y_assign rfl) ?_
  refine TL_nil ?_
  refine T_seq ?_
  refine T_gives (show Gives _ (osl votedR 50 none 0 (aboveV (s.V.take 0) slot) :: _) from osl_nil votedR 50 none _) ?_
  refine T_region ?_
  refine TL_y rfl rfl (Y_assign rfl) ?_
  refine TL_nil ?_
  refine T_block ?_
  refine T_loopK (σ := AbG) [0, 1] (fun g => g.i ≤ s.V.length) (fun g kv => (6, .int .i64 (g.i : Int)) :: (5, .slice g.A (aboveV (s.V.take g.i) slot).length g.c) :: kv) (fun g => osl votedR 50 g.A g.c (aboveV (s.V.take g.i) slot) :: cells b [.int .i64 s.node, .int .i64 s.prom.1, .int .i64 s.prom.2, .slice A s.V.length c] 64 :: osl votedR 50 A c s.V :: L) (fun g => s.V.length - g.i) (⟨0, none, 0⟩) rfl (Nat.zero_le _) (GivesTo.g) (sub_cons rfl (sub_cons rfl (sub_cons rfl (sub_cons rfl (sub_nil))))) ?_
  rintro ⟨i, X, cx⟩ hil
  dsimp only at hil ⊢
  refine T_seq ?_
  refine T_region ?_
  refine TL_y rfl rfl (Y_move rfl) ?_
  refine TL_y rfl rfl (Y_move rfl) ?_
  refine TL_y rfl rfl (Y_nil_check rfl) ?_
  refine TL_y rfl rfl (Y_field_addr rfl) ?_
  refine TL_y rfl rfl (Y_load rfl rfl) ?_
  refine TL_y rfl rfl (Y_len rfl) ?_
  refine TL_y rfl rfl (Y_lt rfl rfl) ?_
  refine TL_nil ?_
  refine T_if rfl (fun h13 => ?_) (fun h13 => ?_)
  · refine T_skip ?_
    refine thenS_normal ?_
    refine T_seq ?_
    refine T_block ?_
    obtain ⟨v, hv⟩ : ∃ v, s.V[i]? = some v := ⟨_, List.getElem?_eq_getElem (by omega)⟩
    have hsn := above_snoc hv slot
    have hal : (aboveV (s.V.take i) slot).length ≤ (s.V.take i).length := List.length_filter_le _ _
    have htl : (s.V.take i).length ≤ s.V.length := by rw [List.length_take]; omega
    refine T_region ?_
    refine TL_y rfl rfl (Y_move rfl) ?_
    refine TL_y rfl rfl (Y_nil_check rfl) ?_
    refine TL_y rfl rfl (Y_field_addr rfl) ?_
    refine TL_y rfl rfl (Y_load rfl rfl) ?_
    refine TL_y rfl rfl (Y_move rfl) ?_
    refine TL_index_n rfl rfl rfl (rfl) ((sln (A := A) (c := c))) (hv) ?_
    intro bn21 on21 hA21 hk21
    have hu21 := hv
    refine TL_y rfl rfl (Y_field_addr2 rfl) ?_
    refine TL_y rfl rfl (Y_load_nx rfl hk21 hu21 (fun _ => rfl)) ?_
    refine TL_y rfl rfl (Y_move rfl) ?_
    refine TL_y rfl rfl (Y_ge rfl rfl) ?_
    refine TL_nil ?_
    refine T_if rfl (fun h25 => ?_) (fun h25 => ?_)
    · rw [if_pos h25] at hsn
      refine T_region_last ?_
      refine TL_y rfl rfl (Y_move rfl) ?_
      refine TL_y rfl rfl (Y_move rfl) ?_
      refine TL_y rfl rfl (Y_nil_check rfl) ?_
      refine TL_y rfl rfl (Y_field_addr rfl) ?_
      refine TL_y rfl rfl (Y_load rfl rfl) ?_
      refine TL_y rfl rfl (Y_move rfl) ?_
      refine TL_index_n rfl rfl rfl (rfl) ((sln (A := A) (c := c))) (hv) ?_
      intro bn32 on32 hA32 hk32
      have hu32 := hv
      refine TL_load_nx rfl rfl hk32 hu32 (fun _ => rfl) ?_
      intro p33 ok33
      simp only [List.cons_append, List.nil_append]
      refine TL_build_slice rfl rfl rfl rfl rfl rfl ?_
      intro b34
      refine TL_osl (k := 1) votedR [v] (cells_one' (ex_rep p33 (sep_sl slk) ok33)) rfl (by decide) ?_
      refine TL_freeze_osl ?_
      refine TL_name 34 (v' := .slice (some ⟨b34, 0, none⟩) [v].length 1) rfl rfl ?_
      refine TL_append rfl rfl rfl rfl rfl slk (by simp only [List.length_cons, List.length_nil]; omega) ?_
      intro A35 c35
      rw [← hsn]
      refine TL_y rfl rfl (Y_assign rfl) ?_
      refine TL_nil ?_
      refine inB_normal ?_
      refine thenS_normal ?_
      refine T_region_last ?_
      refine TL_y rfl rfl (Y_move rfl) ?_
      refine TL_y rfl rfl (Y_add rfl rfl (by omega)) ?_
      refine TL_name 15 (v' := .int .i64 ((i + 1 : Nat) : Int)) rfl (rfl) ?_
      refine TL_y rfl rfl (Y_assign rfl) ?_
      refine TL_nil ?_
      refine thenS_normal ?_
      exact ⟨⟨i + 1, A35, c35⟩, (by simp only; omega), by simp only; omega, holds_to (sub_cons rfl (sub_cons rfl (sub_cons rfl (sub_cons rfl (sub_nil))))) GivesTo.g⟩
    · rw [if_neg h25, List.append_nil] at hsn
      rw [← hsn]
      refine T_skip ?_
      refine inB_normal ?_
      refine thenS_normal ?_
      refine T_region_last ?_
      refine TL_y rfl rfl (Y_move rfl) ?_
      refine TL_y rfl rfl (Y_add rfl rfl (by omega)) ?_
      refine TL_name 15 (v' := .int .i64 ((i + 1 : Nat) : Int)) rfl (rfl) ?_
      refine TL_y rfl rfl (Y_assign rfl) ?_
      refine TL_nil ?_
      refine thenS_normal ?_
      exact ⟨⟨i + 1, X, cx⟩, (by simp only; omega), by simp only; omega, holds_to (sub_cons rfl (sub_cons rfl (sub_cons rfl (sub_cons rfl (sub_nil))))) GivesTo.g⟩
  · refine T_exit ?_
    refine thenS_exit ?_
    refine thenS_exit ?_
    refine inB_hit ?_
    refine thenS_normal ?_
    refine T_region ?_
    refine TL_y rfl rfl (Y_move rfl) ?_
    refine TL_y rfl rfl (Y_assign rfl) ?_
    refine TL_nil ?_
    refine T_ret ?_
    rw [List.take_of_length_le (show s.V.length ≤ i by omega)]
    refine RetQ.gives (Gives.cons _ (ra_close (A := A) (c := c) b s)) ?_
    exact RetG_1 (.inl rfl) rfl (ResV.tmp rfl) GivesTo.g (⟨X, cx, rfl, rfl⟩)
theorem refFind16_spec {L : List HP} {b : Nat} {s : AccD} (slot : Int) : Fn Try.prog 68 #[.pointer (some ⟨b, 0, none⟩), .int .i64 slot] (ra b s :: L) (fun v L' => ∃ r : Int, v = .int .i64 r ∧ L' = ra b s :: L ∧ ((r = -1 ∧ getM (vmap s.V) slot = none) ∨ ∃ (i : Nat) (u : VotedD), r = (i : Int) ∧ s.V[i]? = some u ∧ u.slot = slot)) := by
  refine Fn_enter Try.func68 rfl rfl rfl rfl ?_
  refine T_ra fun A c hlc => ?_
  simp only [maxEl] at hlc
  refine T_region ?_
  refine TL_y rfl rfl (Y_assign rfl) ?_
  refine TL_nil ?_
  refine T_seq ?_
  refine T_region ?_
  refine TL_y rfl rfl (Y_assign rfl) ?_
  refine TL_nil ?_
  refine T_block ?_
  refine T_loopK (σ := Nat) [0, 1] (fun i => i ≤ s.V.length ∧ ∀ q ∈ s.V.take i, q.slot ≠ slot) (fun i kv => (5, .int .i64 (i : Int)) :: kv) (fun i => cells b [.int .i64 s.node, .int .i64 s.prom.1, .int .i64 s.prom.2, .slice A s.V.length c] 64 :: osl votedR 50 A c s.V :: L) (fun i => s.V.length - i) (0) rfl (⟨Nat.zero_le _, by simp⟩) (GivesTo.g) (sub_cons rfl (sub_cons rfl (sub_cons rfl (sub_nil)))) ?_
  intro i hi
  refine T_seq ?_
  refine T_region ?_
  refine TL_y rfl rfl (Y_move rfl) ?_
  refine TL_y rfl rfl (Y_move rfl) ?_
  refine TL_y rfl rfl (Y_nil_check rfl) ?_
  refine TL_y rfl rfl (Y_field_addr rfl) ?_
  refine TL_y rfl rfl (Y_load rfl rfl) ?_
  refine TL_y rfl rfl (Y_len rfl) ?_
  refine TL_y rfl rfl (Y_lt rfl rfl) ?_
  refine TL_nil ?_
  refine T_if rfl (fun h12 => ?_) (fun h12 => ?_)
  · refine T_skip ?_
    refine thenS_normal ?_
    refine T_seq ?_
    refine T_block ?_
    obtain ⟨u, hu⟩ : ∃ u, s.V[i]? = some u := ⟨_, List.getElem?_eq_getElem (by omega)⟩
    refine T_region ?_
    refine TL_y rfl rfl (Y_move rfl) ?_
    refine TL_y rfl rfl (Y_nil_check rfl) ?_
    refine TL_y rfl rfl (Y_field_addr rfl) ?_
    refine TL_y rfl rfl (Y_load rfl rfl) ?_
    refine TL_y rfl rfl (Y_move rfl) ?_
    refine TL_index_n rfl rfl rfl (rfl) ((sln (A := A) (c := c))) (hu) ?_
    intro bn20 on20 hA20 hk20
    have hu20 := hu
    refine TL_y rfl rfl (Y_field_addr2 rfl) ?_
    refine TL_y rfl rfl (Y_load_nx rfl hk20 hu20 (fun _ => rfl)) ?_
    refine TL_y rfl rfl (Y_move rfl) ?_
    refine TL_y rfl rfl (Y_eq rfl rfl) ?_
    refine TL_nil ?_
    refine T_if rfl (fun h24 => ?_) (fun h24 => ?_)
    · refine T_region ?_
      refine TL_y rfl rfl (Y_move rfl) ?_
      refine TL_y rfl rfl (Y_assign rfl) ?_
      refine TL_nil ?_
      refine T_ret ?_
      refine inB_ret ?_
      refine thenS_ret ?_
      refine thenS_ret ?_
      refine inB_ret ?_
      refine thenS_ret ?_
      refine RetQ.gives (ra_close (A := A) (c := c) b s) ?_
      exact RetG_1 (.inl rfl) rfl (ResV.tmp rfl) GivesTo.g (⟨_, rfl, rfl, .inr ⟨i, u, rfl, hu, h24⟩⟩)
    · refine T_skip ?_
      refine inB_normal ?_
      refine thenS_normal ?_
      refine T_region_last ?_
      refine TL_y rfl rfl (Y_move rfl) ?_
      refine TL_y rfl rfl (Y_add rfl rfl (by omega)) ?_
      refine TL_name 14 (v' := .int .i64 ((i + 1 : Nat) : Int)) rfl (rfl) ?_
      refine TL_y rfl rfl (Y_assign rfl) ?_
      refine TL_nil ?_
      refine thenS_normal ?_
      exact ⟨i + 1, ⟨by omega, by rw [takeAt hu]; intro q hq; rcases List.mem_append.1 hq with h | h; exact hi.2 q h; (simp at h; subst h; exact h24)⟩, by omega, holds_to (sub_cons rfl (sub_cons rfl (sub_cons rfl (sub_nil)))) GivesTo.g⟩
  · refine T_exit ?_
    refine thenS_exit ?_
    refine thenS_exit ?_
    refine inB_hit ?_
    refine thenS_normal ?_
    refine T_region ?_
    refine TL_y rfl rfl (Y_assign rfl) ?_
    refine TL_nil ?_
    refine T_ret ?_
    have e1 : getM (vmap s.V) slot = none := vmap_none.2 (by have := hi.2; rwa [List.take_of_length_le (by omega)] at this)
    refine RetQ.gives (ra_close (A := A) (c := c) b s) ?_
    exact RetG_1 (.inl rfl) rfl (ResV.tmp rfl) GivesTo.g (⟨_, rfl, rfl, .inl ⟨rfl, e1⟩⟩)
theorem sameVotedN_spec {L : List HP} {A B : Option Addr} {c d : Nat} {xs ys : List VotedD} (hk : SlN L votedR A c xs) (hk2 : SlN L votedR B d ys) : Fn Try.prog 26 #[.slice A xs.length c, .slice B ys.length d] L (fun v L' => v = .bool (decide (xs = ys)) ∧ L' = L) :=
  Fn_ro (φ := fun M => sliceAt M votedR A c xs ∧ sliceAt M votedR B d ys) (fun hM h => ⟨h.1.mono hM, h.2.mono hM⟩) (ψ := fun v => v = .bool (decide (xs = ys))) (fun L k => sameVoted_spec (k.mono fun _ h => h.1) (k.mono fun _ h => h.2)) (fun M k N hd hs hM hk' => ⟨sliceAt2_at hM (hk M k N hd hs hM hk'), sliceAt2_at hM (hk2 M k N hd hs hM hk')⟩)
theorem same16_spec {L : List HP} {b bx : Nat} {s : AccD} : Fn Try.prog 34 #[.pointer (some ⟨b, 0, none⟩), .pointer (some ⟨bx, 0, none⟩)] (ac b s :: ra bx s :: L) (fun v L' => v = .bool true ∧ L' = ac b s :: ra bx s :: L) := by
  refine Fn_enter Try.func34 rfl rfl rfl rfl ?_
  refine T_region ?_
  refine TL_y rfl rfl (Y_assign rfl) ?_
  refine TL_nil ?_
  refine T_pullk bx ?_
  refine T_ra fun A c hlc => ?_
  refine T_region_draw _ [0, 1, 0, 4, 12, 28, 63, 127, 255, 511, 255, 1279, 3327, 7423, 16383, 32767, 65535] [] [(0, true), (2, true), (3, true), (4, true), (5, true), (1, false), (6, true), (7, true), (8, true), (10, true), (11, true), (12, true), (13, true), (9, false), (14, false), (15, true), (16, true)] (by kernel_rfl) (by decide +kernel) (Gives.refl _) ?_
  refine TF_y rfl rfl (Y_move rfl) ?_
  refine TF_y rfl rfl (Y_move rfl) ?_
  refine TF_y rfl rfl (Y_nil_check rfl) ?_
  refine TF_y rfl rfl (Y_field_addr rfl) ?_
  refine TF_y rfl rfl (Y_load_agg rfl rfl) ?_
  refine TF_anchor rfl ?_
  refine TL_pullk b ?_
  refine TL_call rfl rfl (acPromised_spec) ?_
  rintro _ _ ⟨rfl, rfl⟩
  refine TF_end GivesTo.g ?_
  refine TF_y rfl rfl (Y_eq_bal (a := s.prom) (b := s.prom) rfl rfl) ?_
  refine TF_name 11 (v' := .bool true) rfl (congrArg Value.bool (decide_eq_true rfl)) ?_
  refine TF_y rfl rfl (Y_move rfl) ?_
  refine TF_gy rfl rfl rfl rfl (Y_move rfl) ?_
  refine TF_gy rfl rfl rfl rfl (Y_move rfl) ?_
  refine TF_gy rfl rfl rfl rfl (Y_nil_check rfl) ?_
  refine TF_gy rfl rfl rfl rfl (Y_field_addr rfl) ?_
  refine TF_gy rfl rfl rfl rfl (Y_load rfl rfl) ?_
  refine TF_anchor rfl ?_
  refine TL_grun rfl rfl ?_
  refine TL_pullk b ?_
  refine TL_call rfl rfl (acVotes_spec) ?_
  rintro _ _ ⟨A14, c14, rfl, rfl⟩
  refine TL_freeze_osl ?_
  refine TF_end GivesTo.g ?_
  refine TF_anchor rfl ?_
  refine TL_grun rfl rfl ?_
  refine TL_call rfl rfl (sameVotedN_spec (sln (A := A14) (c := c14)) (sln (A := A) (c := c))) ?_
  rintro _ _ ⟨rfl, rfl⟩
  refine TL_name 19 (v' := .bool true) rfl (congrArg Value.bool (by simp)) ?_
  refine TF_end GivesTo.g ?_
  refine TF_y rfl rfl (Y_pick_t rfl rfl) ?_
  refine TF_y rfl rfl (Y_assign rfl) ?_
  refine TF_nil ?_
  refine T_ret ?_
  refine RetQ.gives (ra_close (A := A) (c := c) bx s) ?_
  exact RetG_1 (.inl rfl) rfl (ResV.tmp rfl) GivesTo.g (⟨rfl, rfl⟩)
end Go.SL
set_option linter.unusedVariables false
set_option linter.unusedSimpArgs false
namespace Go.SL
open Go Go.Proofs
theorem voted_ne {u v : VotedD} (hs : u.slot = v.slot) : u ≠ v ↔ u.bal ≠ v.bal ∨ ¬ u.en = v.en := by
  obtain ⟨u1, u2, u3⟩ := u
  obtain ⟨v1, v2, v3⟩ := v
  dsimp only at hs; subst hs
  by_cases h : u2 = v2 <;> simp [h]
theorem inc_inj {V : List VotedD} (h : IncV V) {i j : Nat} {u v : VotedD} (hu : V[i]? = some u) (hv : V[j]? = some v) (e : u.slot = v.slot) : i = j := by
  rcases Nat.lt_trichotomy i j with hlt | heq | hlt
  · have := inc_at h hu hv hlt; omega
  · exact heq
  · have := inc_at h hv hu hlt; omega
set_option maxRecDepth 20000 in
theorem refVote_some {L : List HP} {b : Nat} {s : AccD} {i : Nat} {u : VotedD} (v : VotedD) (q : Option Addr × Nat) (hinc : IncV s.V) (hlen : s.V.length ≤ 4096) (hvo : votedOk v) (hk : SlK L (intR .i64) q.1 q.2 v.en.order.cut) (hu : s.V[i]? = some u) (hus : u.slot = v.slot) : Fn Try.prog 69 #[.pointer (some ⟨b, 0, none⟩), votV v q] (ra b s :: L) (fun r L' => r = .bool (decide (u ≠ v)) ∧ L' = ra b ⟨s.node, s.prom, putV s.V v⟩ :: L) := by
  have hgu : getM (vmap s.V) v.slot = some u := by rw [← hus]; exact vmap_mem hinc (List.mem_of_getElem? hu)
  have hil := (List.getElem?_eq_some_iff.1 hu).1
  refine Fn_enter Try.func69 rfl rfl rfl rfl ?_
  refine T_gives (SlK.lay hk.tail) ?_
  refine T_region ?_
  refine TL_box rfl rfl rfl ?_
  intro b3
  refine TL_y rfl rfl (Y_assign rfl) ?_
  refine TL_nil ?_
  refine T_seq ?_
  refine T_region ?_
  refine TL_y rfl rfl (Y_move rfl) ?_
  refine TL_y rfl rfl (Y_field_addr rfl) ?_
  refine TL_y rfl rfl (Y_load rfl rfl) ?_
  refine TL_pullk b ?_
  refine TL_call rfl rfl (refFind16_spec v.slot) ?_
  rintro _ _ ⟨r, rfl, rfl, hr⟩
  have hri : r = (i : Int) := (by rcases hr with ⟨_, h⟩ | ⟨j, w, h1, h2, h3⟩; (rw [hgu] at h; cases h); (have := inc_inj hinc h2 hu (h3.trans hus.symm); omega))
  subst hri
  refine TL_y rfl rfl (Y_assign rfl) ?_
  refine TL_nil ?_
  refine T_region ?_
  refine TL_y rfl rfl (Y_move rfl) ?_
  refine TL_y rfl rfl (Y_ge rfl rfl) ?_
  refine TL_name 13 (v' := .bool true) rfl (congrArg Value.bool (decide_eq_true (by omega))) ?_
  refine TL_nil ?_
  refine T_cond_true rfl ?_
  refine T_pullk b ?_
  refine T_ra fun A c hlc => ?_
  refine T_focus (A := A) (c := c) hu fun g3 l3 hA3 hl3 => ?_
  subst hA3
  refine T_pull 1 rfl ?_
  refine T_isx (R := votedR) fun p0 hp0 ok0 => ?_
  subst hp0
  simp only [List.cons_append, List.nil_append]
  refine T_region_draw _ [0, 1, 3, 7, 0, 31, 63, 127, 0, 256, 1023, 2047, 4095, 8191, 16383, 32767, 4095, 131071, 262143, 524287, 4095, 1052671, 4194303, 8388607, 16777215, 33554431] [] [(0, true), (1, true), (2, true), (3, true), (4, true), (5, true), (6, true), (7, true), (8, true), (9, true), (10, true), (11, true), (12, true), (13, true), (14, true), (15, true), (16, true), (17, true), (18, true), (19, true), (20, true), (21, true), (22, false), (23, true), (24, true), (25, true)] (by kernel_rfl) (by decide +kernel) (Gives.refl _) ?_
  refine TF_y rfl rfl (Y_move rfl) ?_
  refine TF_y rfl rfl (Y_nil_check rfl) ?_
  refine TF_y rfl rfl (Y_field_addr rfl) ?_
  refine TF_y rfl rfl (Y_load rfl rfl) ?_
  refine TF_y rfl rfl (Y_move rfl) ?_
  refine TF_y rfl rfl (Y_index_x (R := votedR) (xs := s.V) rfl rfl rfl hu) ?_
  refine TF_y rfl rfl (Y_field_addr2 rfl) ?_
  refine TF_y rfl rfl (Y_load_x_agg (vs := [.int .i64 u.bal.1, .int .i64 u.bal.2]) rfl rfl) ?_
  refine TF_y rfl rfl (Y_field_addr rfl) ?_
  refine TF_y rfl rfl (Y_load_agg rfl rfl) ?_
  refine TF_y rfl rfl (Y_ne_bal (a := u.bal) (b := v.bal) rfl rfl) ?_
  refine TF_name 24 (v' := .bool (decide (u.bal ≠ v.bal))) rfl (by by_cases h : u.bal = v.bal <;> simp [h]) ?_
  refine TF_y rfl rfl (Y_move rfl) ?_
  refine TF_splitd 25 rfl (fun h25 => ?_) (fun h25 => ?_)
  · refine TF_gskip rfl rfl rfl rfl rfl ?_
    refine TF_gskip rfl rfl rfl rfl rfl ?_
    refine TF_gskip rfl rfl rfl rfl rfl ?_
    refine TF_gskip rfl rfl rfl rfl rfl ?_
    refine TF_gskip rfl rfl rfl rfl rfl ?_
    refine TF_gskip rfl rfl rfl rfl rfl ?_
    refine TF_gskip rfl rfl rfl rfl rfl ?_
    refine TF_gskip rfl rfl rfl rfl rfl ?_
    refine TF_gskip rfl rfl rfl rfl rfl ?_
    refine TF_gskip rfl rfl rfl rfl rfl ?_
    refine TF_anchor rfl ?_
    refine TL_gskip rfl rfl rfl rfl ?_
    refine TF_end GivesTo.g ?_
    refine TF_gskip rfl rfl rfl rfl rfl ?_
    refine TF_y rfl rfl (Y_pick_t rfl rfl) ?_
    refine TF_y rfl rfl (Y_assign rfl) ?_
    refine TF_nil ?_
    refine T_region_draw _ [0, 1, 3, 7, 0, 0, 63, 127] [7] [(0, true), (1, true), (2, true), (3, true), (4, true), (5, true), (6, true), (7, false)] (by kernel_rfl) (by decide +kernel) (Gives.refl _) ?_
    refine TF_y rfl rfl (Y_move rfl) ?_
    refine TF_y rfl rfl (Y_nil_check rfl) ?_
    refine TF_y rfl rfl (Y_field_addr rfl) ?_
    refine TF_y rfl rfl (Y_load rfl rfl) ?_
    refine TF_y rfl rfl (Y_move rfl) ?_
    refine TF_y rfl rfl (Y_load_agg rfl rfl) ?_
    refine TF_y rfl rfl (Y_index_x (R := votedR) (xs := s.V) rfl rfl rfl hu) ?_
    refine TF_anchor rfl ?_
    refine TL_store_x rfl rfl rfl rfl rfl rfl ?_
    refine TF_end_tail rfl ?_
    refine TF_nil ?_
    refine T_unx (R := votedR) g3 v (ex_rep q (sep_sl slk) hvo) ?_
    rw [show s.V.length = (s.V.set i v).length from (List.length_set ..).symm]
    rw [show putV s.V v = s.V.set i v from put_set hinc hu hus]
    refine T_gives (ra_close (A := some ⟨g3, 0, none⟩) (c := c) b ⟨s.node, s.prom, s.V.set i v⟩) ?_
    refine T_region ?_
    refine TL_y rfl rfl (Y_move rfl) ?_
    refine TL_y rfl rfl (Y_assign rfl) ?_
    refine TL_nil ?_
    refine T_ret ?_
    refine thenS_ret ?_
    exact RetG_1 (.inl rfl) rfl (ResV.tmp rfl) GivesTo.g (⟨congrArg Value.bool (decide_eq_true ((voted_ne hus).2 (.inl h25))).symm, rfl⟩)
  · refine TF_gy rfl rfl rfl rfl (Y_move rfl) ?_
    refine TF_gy rfl rfl rfl rfl (Y_nil_check rfl) ?_
    refine TF_gy rfl rfl rfl rfl (Y_field_addr rfl) ?_
    refine TF_gy rfl rfl rfl rfl (Y_load rfl rfl) ?_
    refine TF_gy rfl rfl rfl rfl (Y_move rfl) ?_
    refine TF_gy rfl rfl rfl rfl (Y_index_x (R := votedR) (xs := s.V) rfl rfl rfl hu) ?_
    refine TF_gy rfl rfl rfl rfl (Y_field_addr2 rfl) ?_
    refine TF_gy rfl rfl rfl rfl (Y_load_x_agg (vs := entryC u.en p0) rfl rfl) ?_
    refine TF_gy rfl rfl rfl rfl (Y_field_addr rfl) ?_
    refine TF_gy rfl rfl rfl rfl (Y_load_agg rfl rfl) ?_
    refine TF_anchor rfl ?_
    refine TL_grun rfl rfl ?_
    refine TL_call rfl rfl (sameEntry16_spec u.en v.en sln (SlN.of_gives GivesTo.g hk.n)) ?_
    rintro _ _ ⟨rfl, rfl⟩
    refine TF_end GivesTo.g ?_
    refine TF_gy rfl rfl rfl rfl (Y_not_d rfl) ?_
    refine TF_y rfl rfl (Y_pick_f rfl rfl) ?_
    refine TF_y rfl rfl (Y_assign rfl) ?_
    refine TF_nil ?_
    refine T_region_draw _ [0, 1, 3, 7, 0, 0, 63, 127] [7] [(0, true), (1, true), (2, true), (3, true), (4, true), (5, true), (6, true), (7, false)] (by kernel_rfl) (by decide +kernel) (Gives.refl _) ?_
    refine TF_y rfl rfl (Y_move rfl) ?_
    refine TF_y rfl rfl (Y_nil_check rfl) ?_
    refine TF_y rfl rfl (Y_field_addr rfl) ?_
    refine TF_y rfl rfl (Y_load rfl rfl) ?_
    refine TF_y rfl rfl (Y_move rfl) ?_
    refine TF_y rfl rfl (Y_load_agg rfl rfl) ?_
    refine TF_y rfl rfl (Y_index_x (R := votedR) (xs := s.V) rfl rfl rfl hu) ?_
    refine TF_anchor rfl ?_
    refine TL_store_x rfl rfl rfl rfl rfl rfl ?_
    refine TF_end_tail rfl ?_
    refine TF_nil ?_
    refine T_unx (R := votedR) g3 v (ex_rep q (sep_sl slk) hvo) ?_
    rw [show s.V.length = (s.V.set i v).length from (List.length_set ..).symm]
    rw [show putV s.V v = s.V.set i v from put_set hinc hu hus]
    refine T_gives (ra_close (A := some ⟨g3, 0, none⟩) (c := c) b ⟨s.node, s.prom, s.V.set i v⟩) ?_
    refine T_region ?_
    refine TL_y rfl rfl (Y_move rfl) ?_
    refine TL_y rfl rfl (Y_assign rfl) ?_
    refine TL_nil ?_
    refine T_ret ?_
    refine thenS_ret ?_
    exact RetG_1 (.inl rfl) rfl (ResV.tmp rfl) GivesTo.g (⟨congrArg Value.bool (decide_eq_decide.2 ⟨fun h => (voted_ne hus).2 (.inr h), fun h => by rcases (voted_ne hus).1 h with h | h; exact absurd h h25; exact h⟩), rfl⟩)
set_option maxRecDepth 20000 in
theorem refVote_none {L : List HP} {b : Nat} {s : AccD} (v : VotedD) (q : Option Addr × Nat) (hlen : s.V.length ≤ 4096) (hvo : votedOk v) (hk : SlK L (intR .i64) q.1 q.2 v.en.order.cut) (hn : getM (vmap s.V) v.slot = none) : Fn Try.prog 69 #[.pointer (some ⟨b, 0, none⟩), votV v q] (ra b s :: L) (fun r L' => r = .bool true ∧ L' = ra b ⟨s.node, s.prom, putV s.V v⟩ :: L) := by
  have hne := vmap_none.1 hn
  refine Fn_enter Try.func69 rfl rfl rfl rfl ?_
  refine T_gives (SlK.lay hk.tail) ?_
  refine T_region ?_
  refine TL_box rfl rfl rfl ?_
  intro b3
  refine TL_y rfl rfl (Y_assign rfl) ?_
  refine TL_nil ?_
  refine T_seq ?_
  refine T_region ?_
  refine TL_y rfl rfl (Y_move rfl) ?_
  refine TL_y rfl rfl (Y_field_addr rfl) ?_
  refine TL_y rfl rfl (Y_load rfl rfl) ?_
  refine TL_pullk b ?_
  refine TL_call rfl rfl (refFind16_spec v.slot) ?_
  rintro _ _ ⟨r, rfl, rfl, hr⟩
  have hri : r = -1 := (by rcases hr with ⟨h, _⟩ | ⟨j, w, _, h2, h3⟩; exact h; exact absurd h3 (hne w (List.mem_of_getElem? h2)))
  subst hri
  refine TL_y rfl rfl (Y_assign rfl) ?_
  refine TL_nil ?_
  refine T_region ?_
  refine TL_y rfl rfl (Y_move rfl) ?_
  refine TL_y rfl rfl (Y_ge rfl rfl) ?_
  refine TL_name 13 (v' := .bool false) rfl (congrArg Value.bool (decide_eq_false (by omega))) ?_
  refine TL_nil ?_
  refine T_cond_false rfl ?_
  refine T_skip ?_
  refine thenS_normal ?_
  refine T_pullk b ?_
  refine T_ra fun A c hlc => ?_
  simp only [maxEl] at hlc
  refine T_region ?_
  refine TL_y rfl rfl (Y_assign rfl) ?_
  refine TL_nil ?_
  refine T_seq ?_
  refine T_block ?_
  refine T_loopK (σ := Nat) [0, 3] (fun k => k ≤ s.V.length ∧ ∀ q ∈ s.V.take k, decide (q.slot < v.slot) = true) (fun k kv => (7, .int .i64 (k : Int)) :: kv) (fun k => cells b [.int .i64 s.node, .int .i64 s.prom.1, .int .i64 s.prom.2, .slice A s.V.length c] 64 :: osl votedR 50 A c s.V :: sl (intR .i64) q.1 q.2 v.en.order.cut :: cells b3 (votedC v q) 50 :: L) (fun k => s.V.length - k) (0) rfl (⟨Nat.zero_le _, by simp⟩) (GivesTo.g) (sub_cons rfl (sub_cons rfl (sub_cons rfl (sub_nil)))) ?_
  intro k hk3
  refine T_seq ?_
  refine Classical.byCases (p := k < s.V.length) (fun hlt => ?_) (fun hlt => ?_)
  · obtain ⟨u, hu⟩ : ∃ u, s.V[k]? = some u := ⟨_, List.getElem?_eq_getElem hlt⟩
    refine T_addr_n (sln (A := A) (c := c)) hu fun bq oq eq => ?_
    refine T_region_draw _ [0, 0, 2, 6, 14, 30, 63, 127, 255, 511, 1023, 2047, 255, 8191, 16383, 32767, 255, 65791, 262143, 524287] [] [(0, true), (1, true), (2, true), (3, true), (4, true), (5, true), (6, true), (7, true), (8, true), (9, true), (10, true), (11, true), (12, true), (13, true), (14, true), (15, true), (16, true), (17, true), (18, true), (19, true)] (by kernel_rfl) (by decide +kernel) (Gives.refl _) ?_
    refine TF_y rfl rfl (Y_move rfl) ?_
    refine TF_y rfl rfl (Y_move rfl) ?_
    refine TF_y rfl rfl (Y_nil_check rfl) ?_
    refine TF_y rfl rfl (Y_field_addr rfl) ?_
    refine TF_y rfl rfl (Y_load rfl rfl) ?_
    refine TF_y rfl rfl (Y_len rfl) ?_
    refine TF_y rfl rfl (Y_lt rfl rfl) ?_
    refine TF_name 53 (v' := .bool true) rfl (congrArg Value.bool (decide_eq_true (by omega))) ?_
    refine TF_y rfl rfl (Y_move rfl) ?_
    refine TF_gy rfl rfl rfl rfl (Y_move rfl) ?_
    refine TF_gy rfl rfl rfl rfl (Y_nil_check rfl) ?_
    refine TF_gy rfl rfl rfl rfl (Y_field_addr rfl) ?_
    refine TF_gy rfl rfl rfl rfl (Y_load rfl rfl) ?_
    refine TF_gy rfl rfl rfl rfl (Y_move rfl) ?_
    refine TF_gy rfl rfl rfl rfl (Y_index_n (R := votedR) (xs := s.V) (b := bq) (o := oq) (congrArg (fun z ↦ some (Value.slice z s.V.length c)) eq) rfl rfl hu) ?_
    refine TF_gy rfl rfl rfl rfl (Y_field_addr2 rfl) ?_
    refine TF_gy rfl rfl rfl rfl (Y_load_nx (xs := s.V) (b := bq) (o := oq) (c := c) (u := u) (v := .int .i64 u.slot) rfl (eq ▸ sln (A := A) (c := c)) hu (fun _ ↦ rfl)) ?_
    refine TF_gy rfl rfl rfl rfl (Y_field_addr rfl) ?_
    refine TF_gy rfl rfl rfl rfl (Y_load rfl rfl) ?_
    refine TF_gy rfl rfl rfl rfl (Y_lt rfl rfl) ?_
    refine TF_y rfl rfl (Y_pick_t rfl rfl) ?_
    refine TF_nil ?_
    refine T_if rfl (fun h66 => ?_) (fun h66 => ?_)
    · refine T_skip ?_
      refine thenS_normal ?_
      refine T_block ?_
      refine T_region_last ?_
      refine TL_y rfl rfl (Y_move rfl) ?_
      refine TL_y rfl rfl (Y_add rfl rfl (by omega)) ?_
      refine TL_name 68 (v' := .int .i64 ((k + 1 : Nat) : Int)) rfl (rfl) ?_
      refine TL_y rfl rfl (Y_assign rfl) ?_
      refine TL_nil ?_
      refine inB_normal ?_
      refine thenS_normal ?_
      exact ⟨k + 1, ⟨by omega, by rw [takeAt hu]; intro q hq; rcases List.mem_append.1 hq with h | h; exact hk3.2 q h; (simp at h; subst h; exact decide_eq_true h66)⟩, by omega, holds_to (sub_cons rfl (sub_cons rfl (sub_cons rfl (sub_nil)))) GivesTo.g⟩
    · refine T_exit ?_
      refine thenS_exit ?_
      refine thenS_exit ?_
      refine inB_hit ?_
      refine thenS_normal ?_
      have hpos : posW (fun p : VotedD => decide (p.slot < v.slot)) s.V = k := posW_eq hk3.1 hk3.2 (fun q hq => by rw [hu] at hq; cases hq; exact decide_eq_false h66)
      have hput : s.V.take k ++ v :: s.V.drop k = putV s.V v := by rw [put_none hn]; unfold insW; rw [hpos]
      have hkl := hk3.1
      have hpl : (putV s.V v).length = s.V.length + 1 := by rw [put_none hn]; exact insW_len _ _ _
      refine T_rd [0, 0, 0, 4, 12, 28, 0, 124, 254, 0, 512, 2046, 0, 4096, 12288, 28672, 0, 126976, 262142, 524287, 1048575, 2097151] (by kernel_rfl) (by decide +kernel) ?_
      refine RD_pair 1 10 (by decide) ?_ ?_
      · refine RD_pair 8 10 (by decide) ?_ ?_
        · refine RD_leaf (cells b [.int .i64 s.node, .int .i64 s.prom.1, .int .i64 s.prom.2, .slice A s.V.length c] 64 :: osl votedR 50 A c s.V :: sl (intR .i64) q.1 q.2 v.en.order.cut :: cells b3 (votedC v q) 50 :: []) [0, 0, 0, 4, 12, 28, 0, 124, 254, 0, 1022, 2046, 0, 4096, 12288, 28672, 0, 126976, 262142, 524287, 1048575, 2097151] [21] [(0, true), (2, true), (3, true), (4, true), (5, true), (6, true), (7, true), (9, true), (12, true), (13, true), (14, true), (15, true), (16, true), (17, true), (1, false), (8, false), (10, false), (11, false), (18, false), (19, true), (20, true), (21, false)] (by decide +kernel) GivesTo.g ?_
          refine TF_y rfl rfl (Y_move rfl) ?_
          refine TF_y rfl rfl (Y_move rfl) ?_
          refine TF_y rfl rfl (Y_nil_check rfl) ?_
          refine TF_y rfl rfl (Y_field_addr rfl) ?_
          refine TF_y rfl rfl (Y_load rfl rfl) ?_
          refine TF_y rfl rfl (Y_move rfl) ?_
          refine TF_y rfl rfl (Y_cut_h rfl rfl (by omega)) ?_
          refine TF_name 76 (v' := .slice A (s.V.take k).length c) rfl (by congr 1; rw [List.length_take]; omega) ?_
          refine TF_y rfl rfl (Y_load_agg rfl rfl) ?_
          refine TF_y rfl rfl (Y_move rfl) ?_
          refine TF_y rfl rfl (Y_nil_check rfl) ?_
          refine TF_y rfl rfl (Y_field_addr rfl) ?_
          refine TF_y rfl rfl (Y_load rfl rfl) ?_
          refine TF_y rfl rfl (Y_move rfl) ?_
          refine TF_y rfl rfl (Y_cut_l rfl rfl (by omega)) ?_
          refine TF_name 86 (v' := .slice (cutA A k c votedR.sz) (s.V.drop k).length (c - k)) rfl (by rw [List.length_drop]; rfl) ?_
          refine TF_anchor rfl ?_
          refine TL_build_slice rfl rfl rfl rfl rfl rfl ?_
          intro b70
          refine TL_osl (k := 0) votedR [] (Knows.const fun M => rfl) rfl (by simp) ?_
          refine TL_name 70 (v' := .slice (some ⟨b70, 0, none⟩) ([] : List VotedD).length 0) rfl rfl ?_
          refine TF_end GivesTo.g ?_
          refine TF_anchor rfl ?_
          refine TL_append_n (R := votedR) rfl rfl rfl rfl rfl ((sln (A := A) (c := c) (xs := s.V)).take k) (by simp only [List.length_nil, List.length_take]; omega) ?_
          intro A77 c77
          simp only [List.nil_append]
          refine TF_end GivesTo.g ?_
          refine TF_anchor rfl ?_
          refine TL_build_slice rfl rfl rfl rfl rfl rfl ?_
          intro b79
          refine TL_osl (k := 1) votedR [v] (cells_one' (ex_rep q (sep_sl slk) hvo)) rfl (by decide) ?_
          refine TL_freeze_osl ?_
          refine TL_name 79 (v' := .slice (some ⟨b79, 0, none⟩) [v].length 1) rfl rfl ?_
          refine TF_end GivesTo.g ?_
          refine TF_anchor rfl ?_
          refine TL_append rfl rfl rfl rfl rfl slk (by simp only [List.length_cons, List.length_nil, List.length_take]; omega) ?_
          intro A80 c80
          refine TF_end GivesTo.g ?_
          refine TF_anchor rfl ?_
          refine TL_append_n (R := votedR) rfl rfl rfl rfl rfl ((sln (A := A) (c := c) (xs := s.V)).dropc hkl hlc.1) (by simp only [List.length_append, List.length_cons, List.length_nil, List.length_take, List.length_drop]; omega) ?_
          intro A87 c87
          rw [show s.V.take k ++ [v] ++ s.V.drop k = putV s.V v by rw [← hput]; simp]
          refine TF_end GivesTo.g ?_
          refine TF_y rfl rfl (Y_nil_check rfl) ?_
          refine TF_y rfl rfl (Y_field_addr rfl) ?_
          refine TF_anchor rfl ?_
          refine TL_store rfl rfl rfl rfl rfl rfl ?_
          refine TF_end_tail rfl ?_
          refine TF_nil ?_
          refine thenS_normal ?_
          refine T_region ?_
          refine TL_y rfl rfl (Y_assign rfl) ?_
          refine TL_nil ?_
          refine T_ret ?_
          refine RetQ.gives (ra_close (A := A87) (c := c87) b ⟨s.node, s.prom, putV s.V v⟩) ?_
          exact RetG_1 (.inl rfl) rfl (ResV.tmp rfl) GivesTo.g (⟨rfl, rfl⟩)
        · refine RD_leaf (cells b [.int .i64 s.node, .int .i64 s.prom.1, .int .i64 s.prom.2, .slice A s.V.length c] 64 :: osl votedR 50 A c s.V :: sl (intR .i64) q.1 q.2 v.en.order.cut :: cells b3 (votedC v q) 50 :: []) [0, 0, 0, 4, 12, 28, 0, 124, 1790, 0, 514, 2046, 0, 4096, 12288, 28672, 0, 126976, 262142, 524287, 1048575, 2097151] [21] [(0, true), (2, true), (3, true), (4, true), (5, true), (6, true), (7, true), (9, true), (12, true), (13, true), (14, true), (15, true), (16, true), (17, true), (1, false), (10, false), (8, false), (11, false), (18, false), (19, true), (20, true), (21, false)] (by decide +kernel) GivesTo.g ?_
          refine TF_y rfl rfl (Y_move rfl) ?_
          refine TF_y rfl rfl (Y_move rfl) ?_
          refine TF_y rfl rfl (Y_nil_check rfl) ?_
          refine TF_y rfl rfl (Y_field_addr rfl) ?_
          refine TF_y rfl rfl (Y_load rfl rfl) ?_
          refine TF_y rfl rfl (Y_move rfl) ?_
          refine TF_y rfl rfl (Y_cut_h rfl rfl (by omega)) ?_
          refine TF_name 76 (v' := .slice A (s.V.take k).length c) rfl (by congr 1; rw [List.length_take]; omega) ?_
          refine TF_y rfl rfl (Y_load_agg rfl rfl) ?_
          refine TF_y rfl rfl (Y_move rfl) ?_
          refine TF_y rfl rfl (Y_nil_check rfl) ?_
          refine TF_y rfl rfl (Y_field_addr rfl) ?_
          refine TF_y rfl rfl (Y_load rfl rfl) ?_
          refine TF_y rfl rfl (Y_move rfl) ?_
          refine TF_y rfl rfl (Y_cut_l rfl rfl (by omega)) ?_
          refine TF_name 86 (v' := .slice (cutA A k c votedR.sz) (s.V.drop k).length (c - k)) rfl (by rw [List.length_drop]; rfl) ?_
          refine TF_anchor rfl ?_
          refine TL_build_slice rfl rfl rfl rfl rfl rfl ?_
          intro b70
          refine TL_osl (k := 0) votedR [] (Knows.const fun M => rfl) rfl (by simp) ?_
          refine TL_name 70 (v' := .slice (some ⟨b70, 0, none⟩) ([] : List VotedD).length 0) rfl rfl ?_
          refine TF_end GivesTo.g ?_
          refine TF_anchor rfl ?_
          refine TL_build_slice rfl rfl rfl rfl rfl rfl ?_
          intro b79
          refine TL_osl (k := 1) votedR [v] (cells_one' (ex_rep q (sep_sl slk) hvo)) rfl (by decide) ?_
          refine TL_freeze_osl ?_
          refine TL_name 79 (v' := .slice (some ⟨b79, 0, none⟩) [v].length 1) rfl rfl ?_
          refine TF_end GivesTo.g ?_
          refine TF_anchor rfl ?_
          refine TL_append_n (R := votedR) rfl rfl rfl rfl rfl ((sln (A := A) (c := c) (xs := s.V)).take k) (by simp only [List.length_nil, List.length_take]; omega) ?_
          intro A77 c77
          simp only [List.nil_append]
          refine TF_end GivesTo.g ?_
          refine TF_anchor rfl ?_
          refine TL_append rfl rfl rfl rfl rfl slk (by simp only [List.length_cons, List.length_nil, List.length_take]; omega) ?_
          intro A80 c80
          refine TF_end GivesTo.g ?_
          refine TF_anchor rfl ?_
          refine TL_append_n (R := votedR) rfl rfl rfl rfl rfl ((sln (A := A) (c := c) (xs := s.V)).dropc hkl hlc.1) (by simp only [List.length_append, List.length_cons, List.length_nil, List.length_take, List.length_drop]; omega) ?_
          intro A87 c87
          rw [show s.V.take k ++ [v] ++ s.V.drop k = putV s.V v by rw [← hput]; simp]
          refine TF_end GivesTo.g ?_
          refine TF_y rfl rfl (Y_nil_check rfl) ?_
          refine TF_y rfl rfl (Y_field_addr rfl) ?_
          refine TF_anchor rfl ?_
          refine TL_store rfl rfl rfl rfl rfl rfl ?_
          refine TF_end_tail rfl ?_
          refine TF_nil ?_
          refine thenS_normal ?_
          refine T_region ?_
          refine TL_y rfl rfl (Y_assign rfl) ?_
          refine TL_nil ?_
          refine T_ret ?_
          refine RetQ.gives (ra_close (A := A87) (c := c87) b ⟨s.node, s.prom, putV s.V v⟩) ?_
          exact RetG_1 (.inl rfl) rfl (ResV.tmp rfl) GivesTo.g (⟨rfl, rfl⟩)
      · refine RD_leaf (cells b [.int .i64 s.node, .int .i64 s.prom.1, .int .i64 s.prom.2, .slice A s.V.length c] 64 :: osl votedR 50 A c s.V :: sl (intR .i64) q.1 q.2 v.en.order.cut :: cells b3 (votedC v q) 50 :: []) [0, 1536, 0, 4, 12, 28, 0, 124, 1790, 0, 512, 2046, 0, 4096, 12288, 28672, 0, 126976, 262142, 524287, 1048575, 2097151] [21] [(0, true), (2, true), (3, true), (4, true), (5, true), (6, true), (7, true), (9, true), (12, true), (13, true), (14, true), (15, true), (16, true), (17, true), (10, false), (1, false), (8, false), (11, false), (18, false), (19, true), (20, true), (21, false)] (by decide +kernel) GivesTo.g ?_
        refine TF_y rfl rfl (Y_move rfl) ?_
        refine TF_y rfl rfl (Y_move rfl) ?_
        refine TF_y rfl rfl (Y_nil_check rfl) ?_
        refine TF_y rfl rfl (Y_field_addr rfl) ?_
        refine TF_y rfl rfl (Y_load rfl rfl) ?_
        refine TF_y rfl rfl (Y_move rfl) ?_
        refine TF_y rfl rfl (Y_cut_h rfl rfl (by omega)) ?_
        refine TF_name 76 (v' := .slice A (s.V.take k).length c) rfl (by congr 1; rw [List.length_take]; omega) ?_
        refine TF_y rfl rfl (Y_load_agg rfl rfl) ?_
        refine TF_y rfl rfl (Y_move rfl) ?_
        refine TF_y rfl rfl (Y_nil_check rfl) ?_
        refine TF_y rfl rfl (Y_field_addr rfl) ?_
        refine TF_y rfl rfl (Y_load rfl rfl) ?_
        refine TF_y rfl rfl (Y_move rfl) ?_
        refine TF_y rfl rfl (Y_cut_l rfl rfl (by omega)) ?_
        refine TF_name 86 (v' := .slice (cutA A k c votedR.sz) (s.V.drop k).length (c - k)) rfl (by rw [List.length_drop]; rfl) ?_
        refine TF_anchor rfl ?_
        refine TL_build_slice rfl rfl rfl rfl rfl rfl ?_
        intro b79
        refine TL_osl (k := 1) votedR [v] (cells_one' (ex_rep q (sep_sl slk) hvo)) rfl (by decide) ?_
        refine TL_freeze_osl ?_
        refine TL_name 79 (v' := .slice (some ⟨b79, 0, none⟩) [v].length 1) rfl rfl ?_
        refine TF_end GivesTo.g ?_
        refine TF_anchor rfl ?_
        refine TL_build_slice rfl rfl rfl rfl rfl rfl ?_
        intro b70
        refine TL_osl (k := 0) votedR [] (Knows.const fun M => rfl) rfl (by simp) ?_
        refine TL_name 70 (v' := .slice (some ⟨b70, 0, none⟩) ([] : List VotedD).length 0) rfl rfl ?_
        refine TF_end GivesTo.g ?_
        refine TF_anchor rfl ?_
        refine TL_append_n (R := votedR) rfl rfl rfl rfl rfl ((sln (A := A) (c := c) (xs := s.V)).take k) (by simp only [List.length_nil, List.length_take]; omega) ?_
        intro A77 c77
        simp only [List.nil_append]
        refine TF_end GivesTo.g ?_
        refine TF_anchor rfl ?_
        refine TL_append rfl rfl rfl rfl rfl slk (by simp only [List.length_cons, List.length_nil, List.length_take]; omega) ?_
        intro A80 c80
        refine TF_end GivesTo.g ?_
        refine TF_anchor rfl ?_
        refine TL_append_n (R := votedR) rfl rfl rfl rfl rfl ((sln (A := A) (c := c) (xs := s.V)).dropc hkl hlc.1) (by simp only [List.length_append, List.length_cons, List.length_nil, List.length_take, List.length_drop]; omega) ?_
        intro A87 c87
        rw [show s.V.take k ++ [v] ++ s.V.drop k = putV s.V v by rw [← hput]; simp]
        refine TF_end GivesTo.g ?_
        refine TF_y rfl rfl (Y_nil_check rfl) ?_
        refine TF_y rfl rfl (Y_field_addr rfl) ?_
        refine TF_anchor rfl ?_
        refine TL_store rfl rfl rfl rfl rfl rfl ?_
        refine TF_end_tail rfl ?_
        refine TF_nil ?_
        refine thenS_normal ?_
        refine T_region ?_
        refine TL_y rfl rfl (Y_assign rfl) ?_
        refine TL_nil ?_
        refine T_ret ?_
        refine RetQ.gives (ra_close (A := A87) (c := c87) b ⟨s.node, s.prom, putV s.V v⟩) ?_
        exact RetG_1 (.inl rfl) rfl (ResV.tmp rfl) GivesTo.g (⟨rfl, rfl⟩)
  · refine T_region_draw _ [0, 0, 2, 6, 14, 30, 63, 127, 255, 511, 1023, 2047, 255, 8191, 16383, 32767, 255, 65791, 262143, 524287] [] [(0, true), (1, true), (2, true), (3, true), (4, true), (5, true), (6, true), (7, true), (8, true), (9, true), (10, true), (11, true), (12, true), (13, true), (14, true), (15, true), (16, true), (17, true), (18, true), (19, true)] (by kernel_rfl) (by decide +kernel) (Gives.refl _) ?_
    refine TF_y rfl rfl (Y_move rfl) ?_
    refine TF_y rfl rfl (Y_move rfl) ?_
    refine TF_y rfl rfl (Y_nil_check rfl) ?_
    refine TF_y rfl rfl (Y_field_addr rfl) ?_
    refine TF_y rfl rfl (Y_load rfl rfl) ?_
    refine TF_y rfl rfl (Y_len rfl) ?_
    refine TF_y rfl rfl (Y_lt rfl rfl) ?_
    refine TF_name 53 (v' := .bool false) rfl (congrArg Value.bool (decide_eq_false (by omega))) ?_
    refine TF_y rfl rfl (Y_move rfl) ?_
    refine TF_gskip rfl rfl rfl rfl rfl ?_
    refine TF_gskip rfl rfl rfl rfl rfl ?_
    refine TF_gskip rfl rfl rfl rfl rfl ?_
    refine TF_gskip rfl rfl rfl rfl rfl ?_
    refine TF_gskip rfl rfl rfl rfl rfl ?_
    refine TF_gskip rfl rfl rfl rfl rfl ?_
    refine TF_gskip rfl rfl rfl rfl rfl ?_
    refine TF_gskip rfl rfl rfl rfl rfl ?_
    refine TF_gskip rfl rfl rfl rfl rfl ?_
    refine TF_gskip rfl rfl rfl rfl rfl ?_
    refine TF_gskip rfl rfl rfl rfl rfl ?_
    refine TF_y rfl rfl (Y_pick_f rfl rfl) ?_
    refine TF_nil ?_
    refine T_cond_false rfl ?_
    refine T_exit ?_
    refine thenS_exit ?_
    refine thenS_exit ?_
    refine inB_hit ?_
    refine thenS_normal ?_
    have hpos : posW (fun p : VotedD => decide (p.slot < v.slot)) s.V = k := posW_eq hk3.1 hk3.2 (fun q hq => by have := (List.getElem?_eq_some_iff.1 hq).1; omega)
    have hput : s.V.take k ++ v :: s.V.drop k = putV s.V v := by rw [put_none hn]; unfold insW; rw [hpos]
    have hkl := hk3.1
    have hpl : (putV s.V v).length = s.V.length + 1 := by rw [put_none hn]; exact insW_len _ _ _
    refine T_rd [0, 0, 0, 4, 12, 28, 0, 124, 254, 0, 512, 2046, 0, 4096, 12288, 28672, 0, 126976, 262142, 524287, 1048575, 2097151] (by kernel_rfl) (by decide +kernel) ?_
    refine RD_pair 1 10 (by decide) ?_ ?_
    · refine RD_pair 8 10 (by decide) ?_ ?_
      · refine RD_leaf (cells b [.int .i64 s.node, .int .i64 s.prom.1, .int .i64 s.prom.2, .slice A s.V.length c] 64 :: osl votedR 50 A c s.V :: sl (intR .i64) q.1 q.2 v.en.order.cut :: cells b3 (votedC v q) 50 :: []) [0, 0, 0, 4, 12, 28, 0, 124, 254, 0, 1022, 2046, 0, 4096, 12288, 28672, 0, 126976, 262142, 524287, 1048575, 2097151] [21] [(0, true), (2, true), (3, true), (4, true), (5, true), (6, true), (7, true), (9, true), (12, true), (13, true), (14, true), (15, true), (16, true), (17, true), (1, false), (8, false), (10, false), (11, false), (18, false), (19, true), (20, true), (21, false)] (by decide +kernel) GivesTo.g ?_
        refine TF_y rfl rfl (Y_move rfl) ?_
        refine TF_y rfl rfl (Y_move rfl) ?_
        refine TF_y rfl rfl (Y_nil_check rfl) ?_
        refine TF_y rfl rfl (Y_field_addr rfl) ?_
        refine TF_y rfl rfl (Y_load rfl rfl) ?_
        refine TF_y rfl rfl (Y_move rfl) ?_
        refine TF_y rfl rfl (Y_cut_h rfl rfl (by omega)) ?_
        refine TF_name 76 (v' := .slice A (s.V.take k).length c) rfl (by congr 1; rw [List.length_take]; omega) ?_
        refine TF_y rfl rfl (Y_load_agg rfl rfl) ?_
        refine TF_y rfl rfl (Y_move rfl) ?_
        refine TF_y rfl rfl (Y_nil_check rfl) ?_
        refine TF_y rfl rfl (Y_field_addr rfl) ?_
        refine TF_y rfl rfl (Y_load rfl rfl) ?_
        refine TF_y rfl rfl (Y_move rfl) ?_
        refine TF_y rfl rfl (Y_cut_l rfl rfl (by omega)) ?_
        refine TF_name 86 (v' := .slice (cutA A k c votedR.sz) (s.V.drop k).length (c - k)) rfl (by rw [List.length_drop]; rfl) ?_
        refine TF_anchor rfl ?_
        refine TL_build_slice rfl rfl rfl rfl rfl rfl ?_
        intro b70
        refine TL_osl (k := 0) votedR [] (Knows.const fun M => rfl) rfl (by simp) ?_
        refine TL_name 70 (v' := .slice (some ⟨b70, 0, none⟩) ([] : List VotedD).length 0) rfl rfl ?_
        refine TF_end GivesTo.g ?_
        refine TF_anchor rfl ?_
        refine TL_append_n (R := votedR) rfl rfl rfl rfl rfl ((sln (A := A) (c := c) (xs := s.V)).take k) (by simp only [List.length_nil, List.length_take]; omega) ?_
        intro A77 c77
        simp only [List.nil_append]
        refine TF_end GivesTo.g ?_
        refine TF_anchor rfl ?_
        refine TL_build_slice rfl rfl rfl rfl rfl rfl ?_
        intro b79
        refine TL_osl (k := 1) votedR [v] (cells_one' (ex_rep q (sep_sl slk) hvo)) rfl (by decide) ?_
        refine TL_freeze_osl ?_
        refine TL_name 79 (v' := .slice (some ⟨b79, 0, none⟩) [v].length 1) rfl rfl ?_
        refine TF_end GivesTo.g ?_
        refine TF_anchor rfl ?_
        refine TL_append rfl rfl rfl rfl rfl slk (by simp only [List.length_cons, List.length_nil, List.length_take]; omega) ?_
        intro A80 c80
        refine TF_end GivesTo.g ?_
        refine TF_anchor rfl ?_
        refine TL_append_n (R := votedR) rfl rfl rfl rfl rfl ((sln (A := A) (c := c) (xs := s.V)).dropc hkl hlc.1) (by simp only [List.length_append, List.length_cons, List.length_nil, List.length_take, List.length_drop]; omega) ?_
        intro A87 c87
        rw [show s.V.take k ++ [v] ++ s.V.drop k = putV s.V v by rw [← hput]; simp]
        refine TF_end GivesTo.g ?_
        refine TF_y rfl rfl (Y_nil_check rfl) ?_
        refine TF_y rfl rfl (Y_field_addr rfl) ?_
        refine TF_anchor rfl ?_
        refine TL_store rfl rfl rfl rfl rfl rfl ?_
        refine TF_end_tail rfl ?_
        refine TF_nil ?_
        refine thenS_normal ?_
        refine T_region ?_
        refine TL_y rfl rfl (Y_assign rfl) ?_
        refine TL_nil ?_
        refine T_ret ?_
        refine RetQ.gives (ra_close (A := A87) (c := c87) b ⟨s.node, s.prom, putV s.V v⟩) ?_
        exact RetG_1 (.inl rfl) rfl (ResV.tmp rfl) GivesTo.g (⟨rfl, rfl⟩)
      · refine RD_leaf (cells b [.int .i64 s.node, .int .i64 s.prom.1, .int .i64 s.prom.2, .slice A s.V.length c] 64 :: osl votedR 50 A c s.V :: sl (intR .i64) q.1 q.2 v.en.order.cut :: cells b3 (votedC v q) 50 :: []) [0, 0, 0, 4, 12, 28, 0, 124, 1790, 0, 514, 2046, 0, 4096, 12288, 28672, 0, 126976, 262142, 524287, 1048575, 2097151] [21] [(0, true), (2, true), (3, true), (4, true), (5, true), (6, true), (7, true), (9, true), (12, true), (13, true), (14, true), (15, true), (16, true), (17, true), (1, false), (10, false), (8, false), (11, false), (18, false), (19, true), (20, true), (21, false)] (by decide +kernel) GivesTo.g ?_
        refine TF_y rfl rfl (Y_move rfl) ?_
        refine TF_y rfl rfl (Y_move rfl) ?_
        refine TF_y rfl rfl (Y_nil_check rfl) ?_
        refine TF_y rfl rfl (Y_field_addr rfl) ?_
        refine TF_y rfl rfl (Y_load rfl rfl) ?_
        refine TF_y rfl rfl (Y_move rfl) ?_
        refine TF_y rfl rfl (Y_cut_h rfl rfl (by omega)) ?_
        refine TF_name 76 (v' := .slice A (s.V.take k).length c) rfl (by congr 1; rw [List.length_take]; omega) ?_
        refine TF_y rfl rfl (Y_load_agg rfl rfl) ?_
        refine TF_y rfl rfl (Y_move rfl) ?_
        refine TF_y rfl rfl (Y_nil_check rfl) ?_
        refine TF_y rfl rfl (Y_field_addr rfl) ?_
        refine TF_y rfl rfl (Y_load rfl rfl) ?_
        refine TF_y rfl rfl (Y_move rfl) ?_
        refine TF_y rfl rfl (Y_cut_l rfl rfl (by omega)) ?_
        refine TF_name 86 (v' := .slice (cutA A k c votedR.sz) (s.V.drop k).length (c - k)) rfl (by rw [List.length_drop]; rfl) ?_
        refine TF_anchor rfl ?_
        refine TL_build_slice rfl rfl rfl rfl rfl rfl ?_
        intro b70
        refine TL_osl (k := 0) votedR [] (Knows.const fun M => rfl) rfl (by simp) ?_
        refine TL_name 70 (v' := .slice (some ⟨b70, 0, none⟩) ([] : List VotedD).length 0) rfl rfl ?_
        refine TF_end GivesTo.g ?_
        refine TF_anchor rfl ?_
        refine TL_build_slice rfl rfl rfl rfl rfl rfl ?_
        intro b79
        refine TL_osl (k := 1) votedR [v] (cells_one' (ex_rep q (sep_sl slk) hvo)) rfl (by decide) ?_
        refine TL_freeze_osl ?_
        refine TL_name 79 (v' := .slice (some ⟨b79, 0, none⟩) [v].length 1) rfl rfl ?_
        refine TF_end GivesTo.g ?_
        refine TF_anchor rfl ?_
        refine TL_append_n (R := votedR) rfl rfl rfl rfl rfl ((sln (A := A) (c := c) (xs := s.V)).take k) (by simp only [List.length_nil, List.length_take]; omega) ?_
        intro A77 c77
        simp only [List.nil_append]
        refine TF_end GivesTo.g ?_
        refine TF_anchor rfl ?_
        refine TL_append rfl rfl rfl rfl rfl slk (by simp only [List.length_cons, List.length_nil, List.length_take]; omega) ?_
        intro A80 c80
        refine TF_end GivesTo.g ?_
        refine TF_anchor rfl ?_
        refine TL_append_n (R := votedR) rfl rfl rfl rfl rfl ((sln (A := A) (c := c) (xs := s.V)).dropc hkl hlc.1) (by simp only [List.length_append, List.length_cons, List.length_nil, List.length_take, List.length_drop]; omega) ?_
        intro A87 c87
        rw [show s.V.take k ++ [v] ++ s.V.drop k = putV s.V v by rw [← hput]; simp]
        refine TF_end GivesTo.g ?_
        refine TF_y rfl rfl (Y_nil_check rfl) ?_
        refine TF_y rfl rfl (Y_field_addr rfl) ?_
        refine TF_anchor rfl ?_
        refine TL_store rfl rfl rfl rfl rfl rfl ?_
        refine TF_end_tail rfl ?_
        refine TF_nil ?_
        refine thenS_normal ?_
        refine T_region ?_
        refine TL_y rfl rfl (Y_assign rfl) ?_
        refine TL_nil ?_
        refine T_ret ?_
        refine RetQ.gives (ra_close (A := A87) (c := c87) b ⟨s.node, s.prom, putV s.V v⟩) ?_
        exact RetG_1 (.inl rfl) rfl (ResV.tmp rfl) GivesTo.g (⟨rfl, rfl⟩)
    · refine RD_leaf (cells b [.int .i64 s.node, .int .i64 s.prom.1, .int .i64 s.prom.2, .slice A s.V.length c] 64 :: osl votedR 50 A c s.V :: sl (intR .i64) q.1 q.2 v.en.order.cut :: cells b3 (votedC v q) 50 :: []) [0, 1536, 0, 4, 12, 28, 0, 124, 1790, 0, 512, 2046, 0, 4096, 12288, 28672, 0, 126976, 262142, 524287, 1048575, 2097151] [21] [(0, true), (2, true), (3, true), (4, true), (5, true), (6, true), (7, true), (9, true), (12, true), (13, true), (14, true), (15, true), (16, true), (17, true), (10, false), (1, false), (8, false), (11, false), (18, false), (19, true), (20, true), (21, false)] (by decide +kernel) GivesTo.g ?_
      refine TF_y rfl rfl (Y_move rfl) ?_
      refine TF_y rfl rfl (Y_move rfl) ?_
      refine TF_y rfl rfl (Y_nil_check rfl) ?_
      refine TF_y rfl rfl (Y_field_addr rfl) ?_
      refine TF_y rfl rfl (Y_load rfl rfl) ?_
      refine TF_y rfl rfl (Y_move rfl) ?_
      refine TF_y rfl rfl (Y_cut_h rfl rfl (by omega)) ?_
      refine TF_name 76 (v' := .slice A (s.V.take k).length c) rfl (by congr 1; rw [List.length_take]; omega) ?_
      refine TF_y rfl rfl (Y_load_agg rfl rfl) ?_
      refine TF_y rfl rfl (Y_move rfl) ?_
      refine TF_y rfl rfl (Y_nil_check rfl) ?_
      refine TF_y rfl rfl (Y_field_addr rfl) ?_
      refine TF_y rfl rfl (Y_load rfl rfl) ?_
      refine TF_y rfl rfl (Y_move rfl) ?_
      refine TF_y rfl rfl (Y_cut_l rfl rfl (by omega)) ?_
      refine TF_name 86 (v' := .slice (cutA A k c votedR.sz) (s.V.drop k).length (c - k)) rfl (by rw [List.length_drop]; rfl) ?_
      refine TF_anchor rfl ?_
      refine TL_build_slice rfl rfl rfl rfl rfl rfl ?_
      intro b79
      refine TL_osl (k := 1) votedR [v] (cells_one' (ex_rep q (sep_sl slk) hvo)) rfl (by decide) ?_
      refine TL_freeze_osl ?_
      refine TL_name 79 (v' := .slice (some ⟨b79, 0, none⟩) [v].length 1) rfl rfl ?_
      refine TF_end GivesTo.g ?_
      refine TF_anchor rfl ?_
      refine TL_build_slice rfl rfl rfl rfl rfl rfl ?_
      intro b70
      refine TL_osl (k := 0) votedR [] (Knows.const fun M => rfl) rfl (by simp) ?_
      refine TL_name 70 (v' := .slice (some ⟨b70, 0, none⟩) ([] : List VotedD).length 0) rfl rfl ?_
      refine TF_end GivesTo.g ?_
      refine TF_anchor rfl ?_
      refine TL_append_n (R := votedR) rfl rfl rfl rfl rfl ((sln (A := A) (c := c) (xs := s.V)).take k) (by simp only [List.length_nil, List.length_take]; omega) ?_
      intro A77 c77
      simp only [List.nil_append]
      refine TF_end GivesTo.g ?_
      refine TF_anchor rfl ?_
      refine TL_append rfl rfl rfl rfl rfl slk (by simp only [List.length_cons, List.length_nil, List.length_take]; omega) ?_
      intro A80 c80
      refine TF_end GivesTo.g ?_
      refine TF_anchor rfl ?_
      refine TL_append_n (R := votedR) rfl rfl rfl rfl rfl ((sln (A := A) (c := c) (xs := s.V)).dropc hkl hlc.1) (by simp only [List.length_append, List.length_cons, List.length_nil, List.length_take, List.length_drop]; omega) ?_
      intro A87 c87
      rw [show s.V.take k ++ [v] ++ s.V.drop k = putV s.V v by rw [← hput]; simp]
      refine TF_end GivesTo.g ?_
      refine TF_y rfl rfl (Y_nil_check rfl) ?_
      refine TF_y rfl rfl (Y_field_addr rfl) ?_
      refine TF_anchor rfl ?_
      refine TL_store rfl rfl rfl rfl rfl rfl ?_
      refine TF_end_tail rfl ?_
      refine TF_nil ?_
      refine thenS_normal ?_
      refine T_region ?_
      refine TL_y rfl rfl (Y_assign rfl) ?_
      refine TL_nil ?_
      refine T_ret ?_
      refine RetQ.gives (ra_close (A := A87) (c := c87) b ⟨s.node, s.prom, putV s.V v⟩) ?_
      exact RetG_1 (.inl rfl) rfl (ResV.tmp rfl) GivesTo.g (⟨rfl, rfl⟩)
theorem refVote_spec {L : List HP} {b : Nat} {s : AccD} (v : VotedD) (q : Option Addr × Nat) (hinc : IncV s.V) (hlen : s.V.length ≤ 4096) (hvo : votedOk v) (hk : SlK L (intR .i64) q.1 q.2 v.en.order.cut) : Fn Try.prog 69 #[.pointer (some ⟨b, 0, none⟩), votV v q] (ra b s :: L) (fun r L' => r = .bool (decide (getM (vmap s.V) v.slot ≠ some v)) ∧ L' = ra b ⟨s.node, s.prom, putV s.V v⟩ :: L) := by
  cases hg : getM (vmap s.V) v.slot with
  | none => exact (refVote_none v q hlen hvo hk hg).cases_ fun r L' h => ⟨by rw [h.1, decide_eq_true]; simp, h.2⟩
  | some u =>
    obtain ⟨h1, h2⟩ := vmap_get hg
    obtain ⟨i, hi⟩ := List.getElem?_of_mem h1
    exact (refVote_some v q hinc hlen hvo hk hi h2).cases_ fun r L' h => ⟨by rw [h.1]; exact congrArg Value.bool (decide_eq_decide.2 (by simp)), h.2⟩
end Go.SL
set_option linter.unusedVariables false
set_option linter.unusedSimpArgs false
namespace Go.SL
open Go
open Go.MapKept Go.WideShapes
open Go.ChangeMaps (setBlock)
section lists
variable {α β : Type}
theorem filter_split {f : α → Bool} {g : α → Nat} : ∀ {z : List α}, (z.map g).Nodup → ∀ {x : α}, x ∈ z → f x = true → (z.filter f).Perm (x :: z.filter fun y => f y && !decide (g y = g x)) := by
  intro z hz x hx hf
  induction z with
  | nil => cases hx
  | cons y r ih =>
    rw [List.map_cons, List.nodup_cons] at hz
    rcases List.mem_cons.1 hx with rfl | hx
    · have e : (r.filter fun y => f y && !decide (g y = g x)) = r.filter f := List.filter_congr fun q hq => by
        have : g q ≠ g x := fun e => hz.1 (e ▸ List.mem_map.2 ⟨q, hq, rfl⟩)
        simp [this]
      rw [List.filter_cons, if_pos hf, List.filter_cons, if_neg (by simp), e]
    · have hne : g y ≠ g x := fun e => hz.1 (e ▸ List.mem_map.2 ⟨x, hx, rfl⟩)
      have h1 := ih hz.2 hx
      rw [List.filter_cons, List.filter_cons]
      by_cases hy : f y = true
      · rw [if_pos hy, if_pos (by simp [hy, hne])]
        exact (List.Perm.cons y h1).trans (List.Perm.swap x y _)
      · rw [if_neg hy, if_neg (by simp [hy])]
        exact h1
theorem zip_erase : ∀ {a : List α} {b : List β} (j : Nat), a.length = b.length → (a.eraseIdx j).zip (b.eraseIdx j) = (a.zip b).eraseIdx j
  | [], [], j, _ => by simp
  | x :: a, y :: b, 0, h => by simp
  | x :: a, y :: b, j + 1, h => by
    simp only [List.eraseIdx_cons_succ, List.zip_cons_cons]
    rw [zip_erase j (by simpa using h)]
end lists
section
variable {κ α : Type} {K : KeyT κ} {R : Rep α} {ag : Bool}
abbrev notSeen (seen : Array Nat) (x : MapEntry × (κ × α)) : Bool := !seen.contains x.1.born
def leftL (es : List MapEntry) (l : List (κ × α)) (seen : Array Nat) : List (κ × α) := ((es.zip l).filter (notSeen seen)).map (·.2)
structure MrD (K : KeyT κ) (R : Rep α) (es : Array MapEntry) (clock since : Nat) (l : List (κ × α)) (seen : Array Nat) (m todo : List (κ × α)) (cur : Option (κ × α)) : Prop where
  st : Stamped es clock
  old : ∀ x ∈ es.toList, x.born < since
  sc : since ≤ clock
  lp : l.Perm m
  len : es.toList.length = l.length
  left : todo.Perm (leftL es.toList l seen)
  cur : ∀ p, cur = some p → ∃ (e : MapEntry) (s0 : Array Nat) (j : Nat), seen = s0.push e.born ∧ es.toList[j]? = some e ∧ l[j]? = some p
abbrev mrDF (K : KeyT κ) (R : Rep α) (ag : Bool) (b it : Nat) (m todo : List (κ × α)) (cur : Option (κ × α)) (x : Array MapEntry × Nat × Nat × List (κ × α) × Array Nat) : List HP :=
  [own it (.mapIter (some b) x.2.2.1 x.2.2.2.2 x.2.1), own b (.map x.1 x.2.1), entsP K R ag x.1.toList x.2.2.2.1, pure (MrD K R x.1 x.2.1 x.2.2.1 x.2.2.2.1 x.2.2.2.2 m todo cur)]
/-- The map b (now m) and an iterator over it: of m these are to come. -/
def mrD (K : KeyT κ) (R : Rep α) (ag : Bool) (b it : Nat) (m todo : List (κ × α)) (cur : Option (κ × α)) : HP := exH (mrDF K R ag b it m todo cur)
class FindD (L : List HP) (it : Nat) (b : outParam Nat) (κ : outParam Type) (α : outParam Type) (K : outParam (KeyT κ)) (R : outParam (Rep α)) (ag : outParam Bool) (m todo : outParam (List (κ × α))) (cur : outParam (Option (κ × α))) (L' : outParam (List HP)) : Prop where
  g : Gives L (mrD K R ag b it m todo cur :: L')
variable {L L0 : List HP} {b it : Nat} {m todo : List (κ × α)} {cur : Option (κ × α)}
instance findD_tail {p : HP} {L L' : List HP} {b it : Nat} {κ α : Type} {K : KeyT κ} {R : Rep α} {ag : Bool} {m todo : List (κ × α)} {cur : Option (κ × α)} [h : FindD L it b κ α K R ag m todo cur L'] : FindD (p :: L) it b κ α K R ag m todo cur (p :: L') := ⟨(Gives.cons p h.g).trans (Gives.swap p _ _)⟩
instance findD_head {L : List HP} {b it : Nat} {κ α : Type} {K : KeyT κ} {R : Rep α} {ag : Bool} {m todo : List (κ × α)} {cur : Option (κ × α)} : FindD (mrD K R ag b it m todo cur :: L) it b κ α K R ag m todo cur L := ⟨Gives.refl _⟩
theorem mrD_open {W w : World} (h : Sat W w (mrD K R ag b it m todo cur :: L)) : ∃ es clock since l seen, MrD K R es clock since l seen m todo cur ∧ Sat W w (own it (.mapIter (some b) since seen clock) :: own b (.map es clock) :: entsP K R ag es.toList l :: L) := by
  obtain ⟨⟨es, clock, since, l, seen⟩, hp⟩ := exH_open h
  have h2 := hp.gives (Gives.pull 3 (mrDF K R ag b it m todo cur (es, clock, since, l, seen) ++ L))
  obtain ⟨M, k, hd, hM, hk, h1, h3, hd', l1, l2, hq, hs⟩ := h2.ex
  exact ⟨es, clock, since, l, seen, hq, h2.gives (Gives.drop _ _)⟩
theorem mrD_close {es : Array MapEntry} {clock since : Nat} {l : List (κ × α)} {seen : Array Nat} (h : MrD K R es clock since l seen m todo cur) : Gives (own it (.mapIter (some b) since seen clock) :: own b (.map es clock) :: entsP K R ag es.toList l :: L) (mrD K R ag b it m todo cur :: L) :=
  Gives.trans (Gives.cons _ (Gives.cons _ (Gives.cons _ (Gives.pure_intro h)))) (exH_close (f := mrDF K R ag b it m todo cur) (es, clock, since, l, seen))
theorem exH_gives {β : Type} {f : β → List HP} {L L' : List HP} (h : ∀ x, Gives (f x ++ L) L') : Gives (exH f :: L) L' := fun M k hs => by
  obtain ⟨h1, h2, hd, l1, l2, ⟨x, hx⟩, h3⟩ := hs
  exact h x M k (sep_append hx h3 hd l1 l2)
/-- The range is over: the map as it is now. -/
theorem mrD_end : Gives (mrD K R ag b it m todo cur :: L) (omap K R ag b m :: L) := exH_gives fun ⟨es, clock, since, l, seen⟩ M k hs => by
  obtain ⟨a1, a2, ad, b1, b2, _, a3, a4, ad2, b3, b4, h1, a5, a6, ad3, b5, b6, h2, a7, a8, ad4, b7, b8, h3, h4⟩ := hs
  exact ⟨a3, a8, Mem.disj_le ad2 (Mem.le_refl _) (Mem.le_trans b8 b6), Mem.le_trans b3 b2, Mem.le_trans b8 (Mem.le_trans b6 (Mem.le_trans b4 b2)), ⟨es, clock, l, h1, h3.st, h3.lp, h2⟩, h4⟩
theorem MrD.some_none {es : Array MapEntry} {clock since : Nat} {l : List (κ × α)} {seen : Array Nat} (h : MrD K R es clock since l seen m todo cur) : MrD K R es clock since l seen m todo none := ⟨h.st, h.old, h.sc, h.lp, h.len, h.left, fun p e => by cases e⟩
section
variable {r : Option Nat} {n : Nat} {P : Program} {ops : Array Oper} {rest : List Oper} {KK : St → Prop} {Q : Exit → St → Prop} {D : List Deferred} {E : Env} {L L' L0 : List HP} {d : Nat} {ty : TypeId} {pos : String} {af : Array Edge}
variable [DecidableEq κ]
theorem TL_rangeD {x : Operand} {t kt et : TypeId} [ht : TyDesc P t (.map kt et)] [hf : FindM L b κ α K R ag m L0] (hd : Nat.blt d n = true) (hx : ev E x = some (.map (some b))) (h : ∀ it, TL r n P ops rest ⟨D, (d, .pointer (some ⟨it, 0, none⟩)) :: E, mrD K R ag b it m m none :: L0⟩ KK) :
    TL r n P ops (⟨some d, .range t x, ty, pos, af, none⟩ :: rest) ⟨D, E, L⟩ KK :=
  TL_val rfl hd rfl (fun _ e => by cases e) fun W a w hh => by
    obtain ⟨es, clock, l, hst, hp, hs1⟩ := omap_open (hh.2.gives hf.g)
    have hbw : w.heap[b]? = some (.map es clock) := hs1.own_at
    obtain ⟨M, _, he⟩ := hs1.knows (φ := fun M => Ents K R ag M es.toList l) (Knows.tail Knows.head)
    have hrun := run_range_map (P := P) w t kt et b es clock ht.under hbw
    refine ⟨_, _, mrD K R ag b w.heap.size m m none :: L0, by simp [execOp, hh.1.ev hx, hrun], (hs1.alloc (.mapIter (some b) clock #[] clock)).gives (mrD_close ⟨hst, ((stamped_iff es clock).1 hst).1, Nat.le_refl _, hp, he.1, hp.symm.trans (List.Perm.of_eq ?_), fun p e => by cases e⟩), h _⟩
    unfold leftL
    rw [List.filter_eq_self.2 (fun x _ => by simp [notSeen])]
    exact (List.map_snd_zip (by rw [he.1]; exact Nat.le_refl _)).symm
omit [DecidableEq κ] in
theorem zip_mem {es : List MapEntry} {l : List (κ × α)} {j : Nat} {e : MapEntry} {p : κ × α} (h1 : es[j]? = some e) (h2 : l[j]? = some p) : (e, p) ∈ es.zip l := List.mem_of_getElem? (i := j) (by rw [List.getElem?_zip_eq_some]; exact ⟨h1, h2⟩)
omit [DecidableEq κ] in
theorem zip_nodup {es : List MapEntry} {l : List (κ × α)} (h : (es.map (·.born)).Nodup) (hl : es.length = l.length) : ((es.zip l).map fun x => x.1.born).Nodup := by
  have : (es.zip l).map (fun x => x.1.born) = es.map (·.born) := by
    rw [show (fun x : MapEntry × (κ × α) => x.1.born) = (·.born) ∘ Prod.fst from rfl, ← List.map_map, List.map_fst_zip (by omega)]
  rw [this]; exact h
omit [DecidableEq κ] in
/-- The step: all came; or another one comes. -/
theorem TL_nextD {x : Operand} [hf : FindD L it b κ α K R ag m todo cur L0] (hd : Nat.blt d n = true) (hx : ev E x = some (.pointer (some ⟨it, 0, none⟩)))
    (h0 : todo = [] → TL r n P ops rest ⟨D, (d, .tuple #[.bool false]) :: E, L⟩ KK)
    (h1 : ∀ p cs todo', p ∈ m → todo.Perm (p :: todo') → TL r n P ops rest ⟨D, (d, .tuple #[.bool true, K.enc p.1, wrapV ag cs]) :: E, mrD K R ag b it m todo' (some p) :: L0⟩ KK) :
    TL r n P ops (⟨some d, .next x false, ty, pos, af, none⟩ :: rest) ⟨D, E, L⟩ KK :=
  TL_val rfl hd rfl (fun _ e => by cases e) fun W a w hh => by
    obtain ⟨es, clock, since, l, seen, hI, hs⟩ := mrD_open (hh.2.gives hf.g)
    have hiw : w.heap[it]? = some (.mapIter (some b) since seen clock) := hs.own_at
    have hbw : w.heap[b]? = some (.map es clock) := (hs.gives (Gives.swap _ _ _)).own_at
    obtain ⟨M, _, he⟩ := hs.knows (φ := fun M => Ents K R ag M es.toList l) (Knows.tail (Knows.tail Knows.head))
    have hst' := (stamped_iff es clock).1 hI.st
    rcases run_next_at (P := P) w ty it b since clock seen es clock hiw hbw hI.old hI.sc with ⟨g0, grun⟩ | ⟨e, hel, w1, hal, grun⟩
    · refine ⟨.tuple #[.bool false], w, L, by simp [execOp, hh.1.ev hx, grun], hh.2, h0 ?_⟩
      have hall := all_seen es seen g0
      have h2 : leftL es.toList l seen = [] := by
        unfold leftL
        rw [List.filter_eq_nil_iff.2 (fun x hx => by have := hall x.1 (List.of_mem_zip hx).1; unfold notSeen; rw [this]; decide)]
        rfl
      have := hI.left
      rw [h2] at this
      exact this.eq_nil
    · obtain ⟨hem, hes⟩ := mem_left hel
      obtain ⟨j, hj⟩ := List.getElem?_of_mem hem
      obtain ⟨p, hpl, r1, r2, cs, r3, r4⟩ := he.at_ hj
      have hsp := filter_split (f := notSeen seen) (g := fun x : MapEntry × (κ × α) => x.1.born) (zip_nodup hst'.2.1 hI.len) (zip_mem hj hpl) (by show (!seen.contains e.born) = true; rw [hes]; rfl)
      have e1 : (es.toList.zip l).filter (fun y => notSeen seen y && !decide (y.1.born = e.born)) = (es.toList.zip l).filter (notSeen (seen.push e.born)) := List.filter_congr fun y _ => by
        unfold notSeen
        rw [Array.contains_push]
        by_cases hy : y.1.born = e.born <;> simp [hy]
      have hperm : todo.Perm (p :: leftL es.toList l (seen.push e.born)) := by
        refine hI.left.trans ?_
        unfold leftL
        rw [← e1]
        exact hsp.map (·.2)
      have hs2 : Sat W w1 (own it (.mapIter (some b) since seen clock) :: own b (.map es clock) :: entsP K R ag es.toList l :: L0) := by
        rcases hal with rfl | rfl
        · exact hs
        · exact hs.drew
      exact ⟨.tuple #[.bool true, K.enc p.1, wrapV ag cs], _, mrD K R ag b it m (leftL es.toList l (seen.push e.born)) (some p) :: L0, by simp [execOp, hh.1.ev hx, grun, r1, r4], (sat_setBlock hs2).gives (mrD_close ⟨hI.st, hI.old, hI.sc, hI.lp, hI.len, List.Perm.refl _, fun q eq => by cases eq; exact ⟨e, seen, j, rfl, hj, hpl⟩⟩), h1 p cs _ (hI.lp.mem_iff.1 (List.mem_of_getElem? hpl)) hperm⟩
omit [DecidableEq κ] in
/-- What the step handed out, read again. -/
theorem TL_entryD {x : Operand} {p : κ × α} [hf : FindD L it b κ α K R ag m todo (some p) L0] (hd : Nat.blt d n = true) (hx : ev E x = some (.pointer (some ⟨it, 0, none⟩)))
    (h : ∀ cs, K.ok p.1 → p ∈ m → TL r n P ops rest ⟨D, (d, .tuple #[K.enc p.1, wrapV ag cs]) :: E, is R p.2 cs :: mrD K R ag b it m todo none :: L0⟩ KK) :
    TL r n P ops (⟨some d, .entry x, ty, pos, af, none⟩ :: rest) ⟨D, E, L⟩ KK :=
  TL_val rfl hd rfl (fun _ e => by cases e) fun W a w hh => by
    obtain ⟨es, clock, since, l, seen, hI, hs⟩ := mrD_open (hh.2.gives hf.g)
    have hiw : w.heap[it]? = some (.mapIter (some b) since seen clock) := hs.own_at
    have hbw : w.heap[b]? = some (.map es clock) := (hs.gives (Gives.swap _ _ _)).own_at
    have hst' := (stamped_iff es clock).1 hI.st
    obtain ⟨e, s0, j, rfl, hje, hpl⟩ := hI.cur p rfl
    have hrun := run_entry_at (P := P) w it b since s0 es clock e hiw hbw (List.mem_of_getElem? hje) hst'.2.1
    obtain ⟨M, k, hd', hM, hk, a1, a2, ad, l1, l2, h1, a3, a4, ad2, l3, l4, h2, a5, a6, ad3, l5, l6, h3, h4⟩ := hs.ex
    obtain ⟨r1, r2, cs, r3, r4⟩ := (show Ents K R ag M es.toList l from h3).2 j e p hje hpl
    refine ⟨.tuple #[K.enc p.1, wrapV ag cs], w, is R p.2 cs :: mrD K R ag b it m todo none :: L0, by simp [execOp, hh.1.ev hx, hrun, r1, r4], ?_, h cs r2 (hI.lp.mem_iff.1 (List.mem_of_getElem? hpl))⟩
    have hs3 : Sat W w (is R p.2 cs :: own it (.mapIter (some b) since (s0.push e.born) clock) :: own b (.map es clock) :: entsP K R ag es.toList l :: L0) :=
      ⟨⟨M, k, hd', hM, hk, Mem.emp, k, Mem.emp_disj _, Mem.emp_le _, Mem.le_refl _, r3, a1, a2, ad, l1, l2, h1, a3, a4, ad2, l3, l4, h2, a5, a6, ad3, l5, l6, h3, h4⟩, hs.os, hs.tape, hs.output, hs.size⟩
    exact hs3.gives (Gives.cons _ (mrD_close hI.some_none))
theorem left_erase {es : List MapEntry} {l : List (κ × α)} {seen : Array Nat} {j : Nat} {k : κ} {u : α} (hnd : ND l) (hlen : es.length = l.length) (hj : l[j]? = some (k, u)) : leftL (es.eraseIdx j) (l.eraseIdx j) seen = delM (leftL es l seen) k := by
  have hz : (es.zip l).eraseIdx j = (es.zip l).filter fun x => !decide (x.2.1 = k) := by
    have h1 : ∀ {z : List (MapEntry × (κ × α))} {j : Nat} {x : MapEntry × (κ × α)}, z.Pairwise (fun a b => a.2.1 ≠ b.2.1) → z[j]? = some x → z.eraseIdx j = z.filter fun y => !decide (y.2.1 = x.2.1) := by
      intro z
      induction z with
      | nil => intro j x _ hx; cases hx
      | cons y r ih =>
        intro j x hp hx
        obtain ⟨p1, p2⟩ := List.pairwise_cons.1 hp
        cases j with
        | zero =>
          cases hx
          rw [List.eraseIdx_cons_zero, List.filter_cons, if_neg (by simp), List.filter_eq_self.2 (fun q hq => by have := p1 q hq; simp; exact fun e => this e.symm)]
        | succ j =>
          have hx' : r[j]? = some x := by simpa using hx
          have := p1 x (List.mem_of_getElem? hx')
          rw [List.eraseIdx_cons_succ, List.filter_cons, if_pos (by simpa using this), ih p2 hx']
    obtain ⟨e, he⟩ : ∃ e, es[j]? = some e := ⟨_, List.getElem?_eq_getElem (by rw [hlen]; exact (List.getElem?_eq_some_iff.1 hj).1)⟩
    have hx : (es.zip l)[j]? = some (e, (k, u)) := by rw [List.getElem?_zip_eq_some]; exact ⟨he, hj⟩
    refine h1 ?_ hx
    have : ((es.zip l).map Prod.snd).Pairwise fun p q => p.1 ≠ q.1 := by rw [List.map_snd_zip (by omega)]; exact hnd
    rw [List.pairwise_map] at this
    exact this
  unfold leftL delM
  rw [zip_erase j hlen, hz, List.filter_filter, List.filter_map, List.filter_filter]
  congr 1
  exact List.filter_congr fun x _ => Bool.and_comm _ _
theorem delD_run {t kt et ty0 : TypeId} [ht : TyDesc P t (.map kt et)] [hk : KeyOk P kt K] {k : κ} (hok : K.ok k) {W w : World} (hs0 : Sat W w (mrD K R ag b it m todo cur :: L)) (u : TypeId) :
    ∃ w', (Builtin.delete_ #[t, u] ty0 #[.map (some b), K.enc k]).run P w = .ok (.tuple #[]) w' ∧ Sat W w' (mrD K R ag b it (delM m k) (delM todo k) none :: L) := by
  obtain ⟨es, clock, since, l, seen, hI, hs⟩ := mrD_open hs0
  have hs1 := hs.gives (Gives.swap _ _ _)
  have hbw : w.heap[b]? = some (.map es clock) := hs1.own_at
  obtain ⟨M, _, he⟩ := hs1.knows (φ := fun M => Ents K R ag M es.toList l) (Knows.tail (Knows.tail Knows.head))
  have hst := hI.st
  have hnd : ND l := he.nd ((stamped_iff es clock).1 hst).2.2
  have hc := check_run (P := P) (kt := kt) hok es.isEmpty w
  rcases find_run (P := P) (kt := kt) hok hst hI.lp he w with ⟨g1, g2, g3⟩ | ⟨j, e, u0, cs0, g1, g2, g3, g4, g5, g6, g7⟩
  · have htd : getM todo k = none := getM_none.2 fun p hp => by
      have hpl : p ∈ leftL es.toList l seen := hI.left.mem_iff.1 hp
      obtain ⟨⟨e, q⟩, hx, rfl⟩ := List.mem_map.1 hpl
      exact getM_none.1 g1 _ (hI.lp.mem_iff.1 (List.of_mem_zip (List.mem_filter.1 hx).1).2)
    rw [del_none g1, del_none htd]
    refine ⟨setBlock w b (.map es clock), ?_, ((sat_setBlock hs1).gives (Gives.swap _ _ _)).gives (mrD_close hI.some_none)⟩
    simp [Builtin.delete_, ht.run, MapKept.run_getObj_map hbw, hc, g2, MapKept.run_setObj_map _ hbw, Result.andThen, setBlock]
  · have hjl : j < es.toList.length := (List.getElem?_eq_some_iff.1 g3).1
    have hjs : j < es.size := by simpa using hjl
    have hsub : (es.eraseIdxIfInBounds j).toList = es.toList.eraseIdx j := by
      unfold Array.eraseIdxIfInBounds
      rw [dif_pos hjs]
      simp
    refine ⟨setBlock w b (.map (es.eraseIdxIfInBounds j) clock), ?_, ((sat_setBlock hs1).gives (Gives.swap _ _ _)).gives (Gives.trans ?_ (mrD_close (l := l.eraseIdx j) (seen := seen) (since := since) ⟨stamped_erase hst j, ?_, hI.sc, ?_, ?_, ?_, fun p e => by cases e⟩))⟩
    · simp [Builtin.delete_, ht.run, MapKept.run_getObj_map hbw, hc, g2, MapKept.run_setObj_map _ hbw, Result.andThen, setBlock]
    · intro N q ⟨a1, a2, ad, b1, b2, ho, a3, a4, ad', b3, b4, ho2, a5, a6, ad3, b5, b6, hen, hsep⟩
      refine ⟨a1, a2, ad, b1, b2, ho, a3, a4, ad', b3, b4, ho2, a5, a6, ad3, b5, b6, ?_, hsep⟩
      show Ents K R ag N (es.eraseIdxIfInBounds j).toList (l.eraseIdx j)
      rw [hsub]
      exact Ents.erase hen j
    · intro x hx
      rw [hsub] at hx
      exact hI.old x (List.mem_of_mem_eraseIdx hx)
    · rw [← delM_erase hnd g5]
      exact delM_perm hI.lp k
    · rw [hsub, List.length_eraseIdx, List.length_eraseIdx, hI.len]
    · rw [hsub, left_erase hnd hI.len g5]
      exact delM_perm hI.left k
theorem TL_deleteD0 {x y : Operand} {t kt et u : TypeId} {k : κ} [ht : TyDesc P t (.map kt et)] [hf : FindD L it b κ α K R ag m todo cur L0] [hk : KeyOk P kt K] (hx : ev E x = some (.map (some b))) (hy : ev E y = some (K.enc k)) (hok : K.ok k)
    (h : TL r n P ops rest ⟨D, E, mrD K R ag b it (delM m k) (delM todo k) none :: L0⟩ KK) :
    TL r n P ops (⟨none, .call { callee := .builtin .delete, args := #[x, y], argTypes := #[t, u] }, ty, pos, af, none⟩ :: rest) ⟨D, E, L⟩ KK :=
  TL_skip rfl rfl (fun _ e => by cases e) fun W a w hh => by
    obtain ⟨w', g1, g2⟩ := delD_run (P := P) (t := t) (kt := kt) (et := et) (ty0 := ty) hok (hh.2.gives hf.g) u
    exact ⟨_, w', _, by simp [execOp, resolve, invoke, builtin, hh.1.ev hx, hh.1.ev hy, g1]; rfl, .inr ⟨_, rfl⟩, g2, h⟩
end
end
end Go.SL
set_option linter.unusedVariables false
namespace Go.SL
open Go
class IsRow (P : Program) (f : FuncId) (row : outParam String) : Prop where
  run : ∀ args w, (callFunc f args).run P w = .ok (.row row args) w
theorem omap_twin {κ α : Type} [DecidableEq κ] {K : KeyT κ} {R : Rep α} {ag : Bool} {b : Nat} {m : List (κ × α)} {L : List HP} {o w : World} (h : Sat o w (omap K R ag b m :: L)) : ∃ es clock, w.heap[b]? = some (.map es clock) ∧ Sat o (w.alloc (.map es clock)) (omap K R ag w.heap.size m :: omap K R ag b m :: L) := by
  obtain ⟨M, k, hd, hM, hk, h1, h2, hd', l1, l2, ⟨es, c, l, q1, q2, q3, q4⟩, hs⟩ := h.ex
  refine ⟨es, c, hk _ _ (l1 _ _ q1), ?_⟩
  have hp : Sat o w (pers (fun M => Ents K R ag M es.toList l) (fun hM h => h.mono hM) :: omap K R ag b m :: L) := ⟨⟨M, k, hd, hM, hk, Mem.emp, k, Mem.emp_disj _, Mem.emp_le _, Mem.le_refl _, q4, h1, h2, hd', l1, l2, ⟨es, c, l, q1, q2, q3, q4⟩, hs⟩, h.os, h.tape, h.output, h.size⟩
  refine (hp.alloc (.map es c)).gives fun N m2 ⟨a1, a2, ad, m1, m3, ha, a3, a4, ad2, m4, m5, he, hs2⟩ => ?_
  exact ⟨a1, a4, Mem.disj_le ad (Mem.le_refl _) m5, m1, Mem.le_trans m5 m3, ⟨es, c, l, ha, q2, q3, he⟩, hs2⟩
end Go.SL
set_option linter.unusedVariables false
set_option linter.unusedSimpArgs false
namespace Go.Proofs
open Go.Shelf
shelf_lay_g SlLaysW.n5 Slmc 5 at Try 72 as Try.laysCloneV
end Go.Proofs
namespace Go.SL
open Go Go.Proofs
theorem cloneV_spec {κ α : Type} [DecidableEq κ] {K : KeyT κ} {R : Rep α} {ag : Bool} {b : Nat} {m : List (κ × α)} {L : List HP} : Fn Try.prog 72 #[.map (some b)] (omap K R ag b m :: L) (fun v L' => ∃ b2, v = .map (some b2) ∧ L' = omap K R ag b2 m :: omap K R ag b m :: L) := fun o w hs => by
  obtain ⟨es, clock, hb, hs2⟩ := omap_twin hs
  refine (AnyW.maps_Clone Try.laysCloneV b es clock w hb).mono ?_
  rintro e w' ⟨rfl, rfl⟩
  exact ⟨_, _, rfl, ⟨_, rfl, rfl⟩, hs2⟩
theorem acFork_spec {L : List HP} {b : Nat} {s : AccD} : Fn Try.prog 31 #[.pointer (some ⟨b, 0, none⟩)] (ac b s :: L) (fun v L' => ∃ b2, v = .pointer (some ⟨b2, 0, none⟩) ∧ L' = ac b2 s :: ac b s :: L) := by
  refine Fn_enter Try.func31 rfl rfl rfl rfl ?_
  refine T_region ?_
  refine TL_y rfl rfl (Y_assign rfl) ?_
  refine TL_nil ?_
  refine T_seq ?_
  refine T_region ?_
  refine TL_y rfl rfl (Y_move rfl) ?_
  refine TL_pullk b ?_
  refine TL_call rfl rfl (acMade_spec) ?_
  rintro _ _ ⟨rfl, rfl⟩
  refine TL_name 4 (v' := .bool true) rfl (rfl) ?_
  refine TL_y rfl rfl (Y_not_t rfl) ?_
  refine TL_nil ?_
  refine T_cond_false rfl ?_
  refine T_skip ?_
  refine thenS_normal ?_
  refine T_pullk b ?_
  refine T_ac fun bt hi => ?_
  refine T_region_draw _ [0, 1, 3, 7, 0, 16, 48, 112, 0, 256, 768, 1792, 3840, 8191, 16383, 32767] [] [(0, true), (1, true), (2, true), (3, true), (4, true), (5, true), (6, true), (7, true), (8, true), (9, true), (10, true), (11, true), (12, false), (13, true), (14, false), (15, true)] (by kernel_rfl) (by decide +kernel) (Gives.refl _) ?_
  refine TF_y rfl rfl (Y_move rfl) ?_
  refine TF_y rfl rfl (Y_nil_check rfl) ?_
  refine TF_y rfl rfl (Y_field_addr rfl) ?_
  refine TF_y rfl rfl (Y_load rfl rfl) ?_
  refine TF_y rfl rfl (Y_move rfl) ?_
  refine TF_y rfl rfl (Y_nil_check rfl) ?_
  refine TF_y rfl rfl (Y_field_addr rfl) ?_
  refine TF_y rfl rfl (Y_load_agg rfl rfl) ?_
  refine TF_y rfl rfl (Y_move rfl) ?_
  refine TF_y rfl rfl (Y_nil_check rfl) ?_
  refine TF_y rfl rfl (Y_field_addr rfl) ?_
  refine TF_y rfl rfl (Y_load rfl rfl) ?_
  refine TF_anchor rfl ?_
  refine TL_pullm bt ?_
  refine TL_call rfl rfl (cloneV_spec) ?_
  rintro _ _ ⟨bt2, rfl, rfl⟩
  refine TF_end GivesTo.g ?_
  refine TF_y rfl rfl (Y_build rfl rfl) ?_
  refine TF_anchor rfl ?_
  refine TL_box rfl rfl rfl ?_
  intro b20
  refine TF_end GivesTo.g ?_
  refine TF_y rfl rfl (Y_assign rfl) ?_
  refine TF_nil ?_
  refine T_ret ?_
  refine RetQ.gives (ac_close (bt := bt2) b20 s hi) ?_
  refine RetQ.gives (ac_close (bt := bt) b s hi) ?_
  exact RetG_1 (.inl rfl) rfl (ResV.tmp rfl) GivesTo.g (⟨b20, rfl, rfl⟩)
theorem dropWant_spec {L : List HP} {bn : Nat} {q : Option Addr × Nat} (n k : Int) (v : VotedD) : Fn Try.prog 74 #[.int .i64 k, votV v q, .pointer (some ⟨bn, 0, none⟩)] (cells bn [.int .i64 n] 3 :: L) (fun v L' => v = .bool (decide (k < n)) ∧ L' = cells bn [.int .i64 n] 3 :: L) := by
  refine Fn_enter Try.func74 rfl rfl rfl rfl ?_
  refine T_region ?_
  refine TL_box rfl rfl rfl ?_
  intro b4
  refine TL_y rfl rfl (Y_assign rfl) ?_
  refine TL_nil ?_
  refine T_region ?_
  refine TL_y rfl rfl (Y_move rfl) ?_
  refine TL_y rfl rfl (Y_load rfl rfl) ?_
  refine TL_y rfl rfl (Y_lt rfl rfl) ?_
  refine TL_y rfl rfl (Y_assign rfl) ?_
  refine TL_nil ?_
  refine T_ret ?_
  exact RetG_1 (.inl rfl) rfl (ResV.tmp rfl) GivesTo.g (⟨rfl, rfl⟩)
structure DfG where
  m : List (Int × VotedD)
  todo : List (Int × VotedD)
def keepP (n : Int) (p : Int × VotedD) : Bool := decide (n ≤ p.1)
structure DfI (n : Int) (m0 : List (Int × VotedD)) (g : DfG) : Prop where
  same : g.m.filter (keepP n) = m0.filter (keepP n)
  low : ∀ p ∈ g.m, p.1 < n → p ∈ g.todo
theorem DfI.skip {n : Int} {m0 m todo td : List (Int × VotedD)} {p : Int × VotedD} (h : DfI n m0 ⟨m, todo⟩) (ht : todo.Perm (p :: td)) (hp : ¬ p.1 < n) : DfI n m0 ⟨m, td⟩ := ⟨h.same, fun q hq hl => by
  rcases List.mem_cons.1 (ht.mem_iff.1 (h.low q hq hl)) with rfl | h1
  · exact absurd hl hp
  · exact h1⟩
theorem DfI.del {n : Int} {m0 m todo td : List (Int × VotedD)} {p : Int × VotedD} (h : DfI n m0 ⟨m, todo⟩) (ht : todo.Perm (p :: td)) (hp : p.1 < n) : DfI n m0 ⟨delM m p.1, delM td p.1⟩ := ⟨by
    rw [← h.same]
    show (m.filter _).filter _ = m.filter _
    rw [List.filter_filter]
    refine List.filter_congr fun q _ => ?_
    unfold keepP
    by_cases hq : n ≤ q.1
    · have : q.1 ≠ p.1 := by omega
      simp [hq, this]
    · simp [hq], fun q hq hl => by
    obtain ⟨h1, h2⟩ := mem_del.1 hq
    refine mem_del.2 ⟨?_, h2⟩
    rcases List.mem_cons.1 (ht.mem_iff.1 (h.low q h1 hl)) with rfl | h3
    · exact absurd rfl h2
    · exact h3⟩
theorem DfI.done {n : Int} {m0 m : List (Int × VotedD)} (h : DfI n m0 ⟨m, []⟩) : m = m0.filter (keepP n) := by
  rw [← h.same]
  refine (List.filter_eq_self.2 fun p hp => ?_).symm
  unfold keepP
  refine decide_eq_true (Int.not_lt.1 fun hl => ?_)
  cases h.low p hp hl
theorem del_le {κ α : Type} [DecidableEq κ] (m : List (κ × α)) (k : κ) : (delM m k).length ≤ m.length := List.length_filter_le _ _
theorem above_vmap (V : List VotedD) (n : Int) : (vmap V).filter (keepP n) = vmap (aboveV V n) := by
  unfold aboveV; rw [List.filter_map]; rfl
theorem deleteFuncV_spec {L : List HP} {bt bn : Nat} {V : List VotedD} (n : Int) : Fn Try.prog 73 #[.map (some bt), .func (.func 74) #[] #[.pointer (some ⟨bn, 0, none⟩)]] (cells bn [.int .i64 n] 3 :: omap intK votedR true bt (vmap V) :: L) (fun v L' => v = .tuple #[] ∧ L' = omap intK votedR true bt (vmap (aboveV V n)) :: cells bn [.int .i64 n] 3 :: L) := by
  refine Fn_enter Try.func73 rfl rfl rfl rfl ?_
  refine T_region ?_
  refine TL_y rfl rfl (Y_move rfl) ?_
  refine TL_rangeD rfl rfl ?_
  intro it
  refine TL_nil ?_
  refine T_block ?_
  refine T_loopK (σ := DfG) [0, 1, 7] (fun g => DfI n (vmap V) g) (fun g kv => kv) (fun g => mrD intK votedR true bt it g.m g.todo none :: cells bn [.int .i64 n] 3 :: L) (fun g => g.todo.length) (⟨vmap V, vmap V⟩) rfl (⟨rfl, fun p hp _ => hp⟩) (GivesTo.g) (sub_cons rfl (sub_cons rfl (sub_cons rfl (sub_nil)))) ?_
  rintro ⟨m, todo⟩ hI
  dsimp only at hI ⊢
  refine T_region ?_
  refine TL_nextD rfl rfl (fun h0 => ?_) (fun p cs td hpm hpt => ?_)
  · refine TL_y rfl rfl (Y_extract rfl rfl) ?_
    refine TL_name 9 (v' := .bool false) rfl (by simp) ?_
    refine TL_nil ?_
    refine T_seq ?_
    refine T_cond_false rfl ?_
    refine T_exit ?_
    refine thenS_exit ?_
    refine thenS_exit ?_
    refine inB_hit ?_
    subst h0
    rw [hI.done, above_vmap]
    refine RetQ.gives mrD_end ?_
    exact RetG_0 (.inr rfl) rfl GivesTo.g (⟨rfl, rfl⟩)
  · refine TL_y rfl rfl (Y_extract rfl rfl) ?_
    refine TL_name 9 (v' := .bool true) rfl (by simp) ?_
    refine TL_nil ?_
    refine T_seq ?_
    refine T_cond_true rfl ?_
    refine T_skip ?_
    refine thenS_normal ?_
    refine T_block ?_
    refine T_region ?_
    refine TL_entryD rfl rfl (fun cs2 hkok hpm2 => ?_)
    refine TL_isx fun q hq hok => ?_
    subst hq
    simp only [List.cons_append, List.nil_append]
    refine TL_y rfl rfl (Y_extract rfl rfl) ?_
    refine TL_y rfl rfl (Y_extract rfl rfl) ?_
    refine TL_alloc rfl rfl ?_
    intro b5
    refine TL_y rfl rfl (Y_assign rfl) ?_
    refine TL_store rfl rfl rfl rfl rfl rfl ?_
    refine TL_nil ?_
    refine T_region ?_
    refine TL_y rfl rfl (Y_move rfl) ?_
    refine TL_y rfl rfl (Y_move rfl) ?_
    refine TL_y rfl rfl (Y_load_agg rfl rfl) ?_
    refine TL_pullc bn ?_
    refine TL_call_fn rfl rfl rfl (dropWant_spec n p.1 p.2) ?_
    rintro _ _ ⟨rfl, rfl⟩
    refine TL_nil ?_
    refine T_if rfl (fun h16 => ?_) (fun h16 => ?_)
    · refine T_region_last ?_
      refine TL_y rfl rfl (Y_move rfl) ?_
      refine TL_y rfl rfl (Y_move rfl) ?_
      refine TL_deleteD0 (it := it) (k := p.1) rfl rfl hkok ?_
      refine TL_nil ?_
      refine inB_normal ?_
      refine thenS_normal ?_
      have hpl := hpt.length_eq
      have hdl := del_le td p.1
      exact ⟨⟨delM m p.1, delM td p.1⟩, hI.del hpt h16, by simp only [List.length_cons] at hpl ⊢; omega, holds_to (sub_cons rfl (sub_cons rfl (sub_cons rfl (sub_nil)))) GivesTo.g⟩
    · refine T_skip ?_
      refine inB_normal ?_
      refine thenS_normal ?_
      have hpl := hpt.length_eq
      have hdl := del_le td p.1
      exact ⟨⟨m, td⟩, hI.skip hpt h16, by simp only [List.length_cons] at hpl ⊢; omega, holds_to (sub_cons rfl (sub_cons rfl (sub_cons rfl (sub_nil)))) GivesTo.g⟩
theorem acDrop_spec {L : List HP} {b : Nat} {s : AccD} (n : Int) : Fn Try.prog 32 #[.pointer (some ⟨b, 0, none⟩), .int .i64 n] (ac b s :: L) (fun v L' => v = .tuple #[] ∧ L' = ac b ⟨s.node, s.prom, aboveV s.V n⟩ :: L) := by
  refine Fn_enter Try.func32 rfl rfl rfl rfl ?_
  refine T_region ?_
  refine TL_box rfl rfl rfl ?_
  intro b3
  refine TL_nil ?_
  refine T_region ?_
  refine TL_y rfl rfl (Y_move rfl) ?_
  refine TL_pullk b ?_
  refine TL_call rfl rfl (acMade_spec) ?_
  rintro _ _ ⟨rfl, rfl⟩
  refine TL_name 5 (v' := .bool true) rfl (rfl) ?_
  refine TL_nil ?_
  refine T_cond_true rfl ?_
  refine T_pullk b ?_
  refine T_ac fun bt hi => ?_
  refine T_region_last ?_
  refine TL_y rfl rfl (Y_move rfl) ?_
  refine TL_y rfl rfl (Y_nil_check rfl) ?_
  refine TL_y rfl rfl (Y_field_addr rfl) ?_
  refine TL_y rfl rfl (Y_load rfl rfl) ?_
  refine TL_y rfl rfl (Y_make_func rfl rfl) ?_
  refine TL_pullm bt ?_
  refine TL_pullc b3 ?_
  refine TL_call rfl rfl (deleteFuncV_spec n) ?_
  rintro _ _ ⟨rfl, rfl⟩
  refine TL_nil ?_
  refine RetQ.gives (ac_close (bt := bt) b ⟨s.node, s.prom, aboveV s.V n⟩ (hi.drop n)) ?_
  exact RetG_0 (.inr rfl) rfl GivesTo.g (⟨rfl, rfl⟩)
end Go.SL
