/- What the document calls right: the walks for events and messages. -/
import Derived.Test.YtiiejjdkhekhmaaRefR
import Derived.Test.YtiiejjdkhekhmaaSameB
import Derived.Test.YtiiejjdkhekhmaaRdF
set_option linter.unusedVariables false
set_option linter.unusedSimpArgs false
namespace Go.SL
open Go Go.Proofs
theorem rightBallot_spec (L : List HP) (a : Int × Int) : Fn Try.prog 83 #[pairV a] L (fun v L' => v = .bool (decide (rBal a)) ∧ L' = L) := by
  refine Fn_enter Try.func83 rfl rfl rfl rfl ?_
  refine T_region ?_
  refine TL_box rfl rfl rfl ?_
  intro b1
  refine TL_y rfl rfl (Y_assign rfl) ?_
  refine TL_nil ?_
  refine T_region ?_
  refine TL_y rfl rfl (Y_field_addr rfl) ?_
  refine TL_y rfl rfl (Y_load rfl rfl) ?_
  refine TL_call rfl rfl (refTo_spec _ _ _) ?_
  rintro _ _ ⟨rfl, rfl⟩
  refine TL_both 5 10 (rBal a) ?_ ?_
  · refine TL_y rfl rfl (Y_move rfl) ?_
    refine TL_splitd 6 rfl (fun h6 => ?_) (fun h6 => ?_)
    · refine TL_grun rfl rfl ?_
      refine TL_y rfl rfl (Y_field_addr rfl) ?_
      refine TL_grun rfl rfl ?_
      refine TL_y rfl rfl (Y_load rfl rfl) ?_
      refine TL_grun rfl rfl ?_
      refine TL_call rfl rfl (refTo_spec _ _ _) ?_
      rintro _ _ ⟨rfl, rfl⟩
      refine TL_y rfl rfl (Y_pick_t rfl rfl) ?_
      refine TL_chain_end rfl ?_ (by repeat (first | exact sub_refl | refine sub_ext rfl ?_)) GivesTo.g
      exact congrArg Value.bool (decide_eq_decide.2 (by simp [rBal, *]))
    · refine TL_gskip rfl rfl rfl rfl ?_
      refine TL_gskip rfl rfl rfl rfl ?_
      refine TL_gskip rfl rfl rfl rfl ?_
      refine TL_y rfl rfl (Y_pick_f rfl rfl) ?_
      refine TL_chain_end rfl ?_ (by repeat (first | exact sub_refl | refine sub_ext rfl ?_)) GivesTo.g
      exact congrArg Value.bool (decide_eq_false (by simp [rBal, *])).symm
  refine TL_y rfl rfl (Y_assign rfl) ?_
  refine TL_nil ?_
  refine T_ret ?_
  exact RetG_1 (.inl rfl) rfl (ResV.tmp rfl) GivesTo.g (⟨rfl, rfl⟩)
theorem rightEvent_spec {L : List HP} {A : Option Addr} {c : Nat} (e : EventD) (hx : eventOk e) (hk : SlK L (intR .i64) A c e.deps) : Fn Try.prog 53 #[.agg (List.toArray (eventC e (A, c)))] L (fun v L' => v = .bool (decide (rEvent e)) ∧ L' = L) := by
  refine Fn_enter Try.func53 rfl rfl rfl rfl ?_
  refine T_gives hk.lay ?_
  refine T_region ?_
  refine TL_box rfl rfl rfl ?_
  intro b1
  refine TL_y rfl rfl (Y_assign rfl) ?_
  refine TL_nil ?_
  refine T_region ?_
  refine TL_y rfl rfl (Y_field_addr rfl) ?_
  refine TL_y rfl rfl (Y_field_addr rfl) ?_
  refine TL_y rfl rfl (Y_load rfl rfl) ?_
  refine TL_call rfl rfl (refTo_spec _ _ _) ?_
  rintro _ _ ⟨rfl, rfl⟩
  refine TL_both 31 37 (rEvent e) ?_ ?_
  · refine TL_y rfl rfl (Y_move rfl) ?_
    refine TL_splitd 7 rfl (fun h7 => ?_) (fun h7 => ?_)
    · refine TL_grun rfl rfl ?_
      refine TL_y rfl rfl (Y_field_addr rfl) ?_
      refine TL_grun rfl rfl ?_
      refine TL_y rfl rfl (Y_field_addr rfl) ?_
      refine TL_grun rfl rfl ?_
      refine TL_y rfl rfl (Y_load rfl rfl) ?_
      refine TL_grun rfl rfl ?_
      refine TL_call rfl rfl (refTo_spec _ _ _) ?_
      rintro _ _ ⟨rfl, rfl⟩
      refine TL_y rfl rfl (Y_pick_t rfl rfl) ?_
      refine TL_y rfl rfl (Y_move rfl) ?_
      refine TL_splitd 13 rfl (fun h13 => ?_) (fun h13 => ?_)
      · refine TL_grun rfl rfl ?_
        refine TL_y rfl rfl (Y_field_addr rfl) ?_
        refine TL_grun rfl rfl ?_
        refine TL_y rfl rfl (Y_load rfl rfl) ?_
        refine TL_grun rfl rfl ?_
        refine TL_call rfl rfl (refVector_spec slk) ?_
        rintro _ _ ⟨rfl, rfl⟩
        refine TL_y rfl rfl (Y_pick_t rfl rfl) ?_
        refine TL_y rfl rfl (Y_move rfl) ?_
        refine TL_splitd 18 rfl (fun h18 => ?_) (fun h18 => ?_)
        · refine TL_grun rfl rfl ?_
          refine TL_y rfl rfl (Y_field_addr rfl) ?_
          refine TL_grun rfl rfl ?_
          refine TL_y rfl rfl (Y_load rfl rfl) ?_
          refine TL_grun rfl rfl ?_
          refine TL_call rfl rfl (refName_spec _ e.cart hx.2.2.2.1) ?_
          rintro _ _ ⟨rfl, rfl⟩
          refine TL_y rfl rfl (Y_pick_t rfl rfl) ?_
          refine TL_y rfl rfl (Y_move rfl) ?_
          refine TL_splitd 23 rfl (fun h23 => ?_) (fun h23 => ?_)
          · refine TL_grun rfl rfl ?_
            refine TL_y rfl rfl (Y_field_addr rfl) ?_
            refine TL_grun rfl rfl ?_
            refine TL_y rfl rfl (Y_load rfl rfl) ?_
            refine TL_grun rfl rfl ?_
            refine TL_call rfl rfl (refTo_spec _ _ _) ?_
            rintro _ _ ⟨rfl, rfl⟩
            refine TL_y rfl rfl (Y_pick_t rfl rfl) ?_
            refine TL_y rfl rfl (Y_move rfl) ?_
            refine TL_splitd 28 rfl (fun h28 => ?_) (fun h28 => ?_)
            · refine TL_grun rfl rfl ?_
              refine TL_y rfl rfl (Y_field_addr rfl) ?_
              refine TL_grun rfl rfl ?_
              refine TL_y rfl rfl (Y_load rfl rfl) ?_
              refine TL_grun rfl rfl ?_
              refine TL_call rfl rfl (refName_spec _ e.sku hx.2.2.2.2.2.1) ?_
              rintro _ _ ⟨rfl, rfl⟩
              refine TL_y rfl rfl (Y_pick_t rfl rfl) ?_
              refine TL_y rfl rfl (Y_move rfl) ?_
              refine TL_splitd 33 rfl (fun h33 => ?_) (fun h33 => ?_)
              · refine TL_grun rfl rfl ?_
                refine TL_y rfl rfl (Y_field_addr rfl) ?_
                refine TL_grun rfl rfl ?_
                refine TL_y rfl rfl (Y_load rfl rfl) ?_
                refine TL_grun rfl rfl ?_
                refine TL_call rfl rfl (refTo_spec _ _ _) ?_
                rintro _ _ ⟨rfl, rfl⟩
                refine TL_y rfl rfl (Y_pick_t rfl rfl) ?_
                refine TL_chain_end rfl ?_ (by repeat (first | exact sub_refl | refine sub_ext rfl ?_)) GivesTo.g
                exact congrArg Value.bool (decide_eq_decide.2 (by simp [rEvent, *]))
              · refine TL_gskip rfl rfl rfl rfl ?_
                refine TL_gskip rfl rfl rfl rfl ?_
                refine TL_gskip rfl rfl rfl rfl ?_
                refine TL_y rfl rfl (Y_pick_f rfl rfl) ?_
                refine TL_chain_end rfl ?_ (by repeat (first | exact sub_refl | refine sub_ext rfl ?_)) GivesTo.g
                exact congrArg Value.bool (decide_eq_false (by simp [rEvent, *])).symm
            · refine TL_gskip rfl rfl rfl rfl ?_
              refine TL_gskip rfl rfl rfl rfl ?_
              refine TL_gskip rfl rfl rfl rfl ?_
              refine TL_y rfl rfl (Y_pick_f rfl rfl) ?_
              refine TL_y rfl rfl (Y_move rfl) ?_
              refine TL_gskip rfl rfl rfl rfl ?_
              refine TL_gskip rfl rfl rfl rfl ?_
              refine TL_gskip rfl rfl rfl rfl ?_
              refine TL_y rfl rfl (Y_pick_f rfl rfl) ?_
              refine TL_chain_end rfl ?_ (by repeat (first | exact sub_refl | refine sub_ext rfl ?_)) GivesTo.g
              exact congrArg Value.bool (decide_eq_false (by simp [rEvent, *])).symm
          · refine TL_gskip rfl rfl rfl rfl ?_
            refine TL_gskip rfl rfl rfl rfl ?_
            refine TL_gskip rfl rfl rfl rfl ?_
            refine TL_y rfl rfl (Y_pick_f rfl rfl) ?_
            refine TL_y rfl rfl (Y_move rfl) ?_
            refine TL_gskip rfl rfl rfl rfl ?_
            refine TL_gskip rfl rfl rfl rfl ?_
            refine TL_gskip rfl rfl rfl rfl ?_
            refine TL_y rfl rfl (Y_pick_f rfl rfl) ?_
            refine TL_y rfl rfl (Y_move rfl) ?_
            refine TL_gskip rfl rfl rfl rfl ?_
            refine TL_gskip rfl rfl rfl rfl ?_
            refine TL_gskip rfl rfl rfl rfl ?_
            refine TL_y rfl rfl (Y_pick_f rfl rfl) ?_
            refine TL_chain_end rfl ?_ (by repeat (first | exact sub_refl | refine sub_ext rfl ?_)) GivesTo.g
            exact congrArg Value.bool (decide_eq_false (by simp [rEvent, *])).symm
        · refine TL_gskip rfl rfl rfl rfl ?_
          refine TL_gskip rfl rfl rfl rfl ?_
          refine TL_gskip rfl rfl rfl rfl ?_
          refine TL_y rfl rfl (Y_pick_f rfl rfl) ?_
          refine TL_y rfl rfl (Y_move rfl) ?_
          refine TL_gskip rfl rfl rfl rfl ?_
          refine TL_gskip rfl rfl rfl rfl ?_
          refine TL_gskip rfl rfl rfl rfl ?_
          refine TL_y rfl rfl (Y_pick_f rfl rfl) ?_
          refine TL_y rfl rfl (Y_move rfl) ?_
          refine TL_gskip rfl rfl rfl rfl ?_
          refine TL_gskip rfl rfl rfl rfl ?_
          refine TL_gskip rfl rfl rfl rfl ?_
          refine TL_y rfl rfl (Y_pick_f rfl rfl) ?_
          refine TL_y rfl rfl (Y_move rfl) ?_
          refine TL_gskip rfl rfl rfl rfl ?_
          refine TL_gskip rfl rfl rfl rfl ?_
          refine TL_gskip rfl rfl rfl rfl ?_
          refine TL_y rfl rfl (Y_pick_f rfl rfl) ?_
          refine TL_chain_end rfl ?_ (by repeat (first | exact sub_refl | refine sub_ext rfl ?_)) GivesTo.g
          exact congrArg Value.bool (decide_eq_false (by simp [rEvent, *])).symm
      · refine TL_gskip rfl rfl rfl rfl ?_
        refine TL_gskip rfl rfl rfl rfl ?_
        refine TL_gskip rfl rfl rfl rfl ?_
        refine TL_y rfl rfl (Y_pick_f rfl rfl) ?_
        refine TL_y rfl rfl (Y_move rfl) ?_
        refine TL_gskip rfl rfl rfl rfl ?_
        refine TL_gskip rfl rfl rfl rfl ?_
        refine TL_gskip rfl rfl rfl rfl ?_
        refine TL_y rfl rfl (Y_pick_f rfl rfl) ?_
        refine TL_y rfl rfl (Y_move rfl) ?_
        refine TL_gskip rfl rfl rfl rfl ?_
        refine TL_gskip rfl rfl rfl rfl ?_
        refine TL_gskip rfl rfl rfl rfl ?_
        refine TL_y rfl rfl (Y_pick_f rfl rfl) ?_
        refine TL_y rfl rfl (Y_move rfl) ?_
        refine TL_gskip rfl rfl rfl rfl ?_
        refine TL_gskip rfl rfl rfl rfl ?_
        refine TL_gskip rfl rfl rfl rfl ?_
        refine TL_y rfl rfl (Y_pick_f rfl rfl) ?_
        refine TL_y rfl rfl (Y_move rfl) ?_
        refine TL_gskip rfl rfl rfl rfl ?_
        refine TL_gskip rfl rfl rfl rfl ?_
        refine TL_gskip rfl rfl rfl rfl ?_
        refine TL_y rfl rfl (Y_pick_f rfl rfl) ?_
        refine TL_chain_end rfl ?_ (by repeat (first | exact sub_refl | refine sub_ext rfl ?_)) GivesTo.g
        exact congrArg Value.bool (decide_eq_false (by simp [rEvent, *])).symm
    · refine TL_gskip rfl rfl rfl rfl ?_
      refine TL_gskip rfl rfl rfl rfl ?_
      refine TL_gskip rfl rfl rfl rfl ?_
      refine TL_gskip rfl rfl rfl rfl ?_
      refine TL_y rfl rfl (Y_pick_f rfl rfl) ?_
      refine TL_y rfl rfl (Y_move rfl) ?_
      refine TL_gskip rfl rfl rfl rfl ?_
      refine TL_gskip rfl rfl rfl rfl ?_
      refine TL_gskip rfl rfl rfl rfl ?_
      refine TL_y rfl rfl (Y_pick_f rfl rfl) ?_
      refine TL_y rfl rfl (Y_move rfl) ?_
      refine TL_gskip rfl rfl rfl rfl ?_
      refine TL_gskip rfl rfl rfl rfl ?_
      refine TL_gskip rfl rfl rfl rfl ?_
      refine TL_y rfl rfl (Y_pick_f rfl rfl) ?_
      refine TL_y rfl rfl (Y_move rfl) ?_
      refine TL_gskip rfl rfl rfl rfl ?_
      refine TL_gskip rfl rfl rfl rfl ?_
      refine TL_gskip rfl rfl rfl rfl ?_
      refine TL_y rfl rfl (Y_pick_f rfl rfl) ?_
      refine TL_y rfl rfl (Y_move rfl) ?_
      refine TL_gskip rfl rfl rfl rfl ?_
      refine TL_gskip rfl rfl rfl rfl ?_
      refine TL_gskip rfl rfl rfl rfl ?_
      refine TL_y rfl rfl (Y_pick_f rfl rfl) ?_
      refine TL_y rfl rfl (Y_move rfl) ?_
      refine TL_gskip rfl rfl rfl rfl ?_
      refine TL_gskip rfl rfl rfl rfl ?_
      refine TL_gskip rfl rfl rfl rfl ?_
      refine TL_y rfl rfl (Y_pick_f rfl rfl) ?_
      refine TL_chain_end rfl ?_ (by repeat (first | exact sub_refl | refine sub_ext rfl ?_)) GivesTo.g
      exact congrArg Value.bool (decide_eq_false (by simp [rEvent, *])).symm
  refine TL_y rfl rfl (Y_assign rfl) ?_
  refine TL_nil ?_
  refine T_ret ?_
  exact RetG_1 (.inl rfl) rfl (ResV.tmp rfl) GivesTo.g (⟨rfl, rfl⟩)
def HeadM (m : MsgD) : Prop := rNum 255 m.kind ∧ rNum 6 m.frm ∧ rNum 6 m.to_ ∧ rBal m.bal ∧ rNum 2147483647 m.slot ∧ rEntry m.en ∧ m.voted.length ≤ 4096 ∧ rVec m.seen ∧ m.events.length ≤ 4096 ∧ rNum 4611686018427387904 m.time
instance (m : MsgD) : Decidable (HeadM m) := by unfold HeadM; exact inferInstance
theorem head_msg {m : MsgD} : rMsg m ↔ HeadM m ∧ (∀ v ∈ m.voted, rVoted v) ∧ ∀ v ∈ m.events, rEvent v := by
  unfold rMsg HeadM
  constructor
  · rintro ⟨h1, h2, h3, h4, h5, h6, ⟨h7, h8⟩, h9, ⟨ha, hb⟩, hc⟩
    exact ⟨⟨h1, h2, h3, h4, h5, h6, h7, h9, ha, hc⟩, h8, hb⟩
  · rintro ⟨⟨h1, h2, h3, h4, h5, h6, h7, h9, ha, hc⟩, h8, hb⟩
    exact ⟨h1, h2, h3, h4, h5, h6, ⟨h7, h8⟩, h9, ⟨ha, hb⟩, hc⟩
theorem rightMsg_spec {L : List HP} (m : MsgD) (p : MsgP) (hx : MsgOk m) (hk : MsgK L m p) : Fn Try.prog 52 #[msgV m p] L (fun v L' => v = .bool (decide (rMsg m)) ∧ L' = L) := by
  refine Fn_enter Try.func52 rfl rfl rfl rfl ?_
  refine T_gives (MsgK.lay hk) ?_
  refine SlK.lens (slk (A := p.voted.1) (c := p.voted.2)) fun hlv => ?_
  refine SlK.lens (slk (A := p.events.1) (c := p.events.2)) fun hle => ?_
  simp only [maxEl] at hlv hle
  refine T_region ?_
  refine TL_box rfl rfl rfl ?_
  intro b1
  refine TL_y rfl rfl (Y_assign rfl) ?_
  refine TL_nil ?_
  refine T_seq ?_
  refine T_region ?_
  refine TL_y rfl rfl (Y_field_addr rfl) ?_
  refine TL_y rfl rfl (Y_load rfl rfl) ?_
  refine TL_call rfl rfl (refTo_spec _ _ _) ?_
  rintro _ _ ⟨rfl, rfl⟩
  refine TL_y rfl rfl (Y_not_d rfl) ?_
  refine TL_both 54 62 (¬ HeadM m) ?_ ?_
  · refine TL_y rfl rfl (Y_move rfl) ?_
    refine TL_splitd 9 rfl (fun h9 => ?_) (fun h9 => ?_)
    · refine TL_gskip rfl rfl rfl rfl ?_
      refine TL_gskip rfl rfl rfl rfl ?_
      refine TL_gskip rfl rfl rfl rfl ?_
      refine TL_gskip rfl rfl rfl rfl ?_
      refine TL_y rfl rfl (Y_pick_t rfl rfl) ?_
      refine TL_y rfl rfl (Y_move rfl) ?_
      refine TL_gskip rfl rfl rfl rfl ?_
      refine TL_gskip rfl rfl rfl rfl ?_
      refine TL_gskip rfl rfl rfl rfl ?_
      refine TL_gskip rfl rfl rfl rfl ?_
      refine TL_y rfl rfl (Y_pick_t rfl rfl) ?_
      refine TL_y rfl rfl (Y_move rfl) ?_
      refine TL_gskip rfl rfl rfl rfl ?_
      refine TL_gskip rfl rfl rfl rfl ?_
      refine TL_gskip rfl rfl rfl rfl ?_
      refine TL_gskip rfl rfl rfl rfl ?_
      refine TL_y rfl rfl (Y_pick_t rfl rfl) ?_
      refine TL_y rfl rfl (Y_move rfl) ?_
      refine TL_gskip rfl rfl rfl rfl ?_
      refine TL_gskip rfl rfl rfl rfl ?_
      refine TL_gskip rfl rfl rfl rfl ?_
      refine TL_gskip rfl rfl rfl rfl ?_
      refine TL_y rfl rfl (Y_pick_t rfl rfl) ?_
      refine TL_y rfl rfl (Y_move rfl) ?_
      refine TL_gskip rfl rfl rfl rfl ?_
      refine TL_gskip rfl rfl rfl rfl ?_
      refine TL_gskip rfl rfl rfl rfl ?_
      refine TL_gskip rfl rfl rfl rfl ?_
      refine TL_y rfl rfl (Y_pick_t rfl rfl) ?_
      refine TL_y rfl rfl (Y_move rfl) ?_
      refine TL_gskip rfl rfl rfl rfl ?_
      refine TL_gskip rfl rfl rfl rfl ?_
      refine TL_gskip rfl rfl rfl rfl ?_
      refine TL_gskip rfl rfl rfl rfl ?_
      refine TL_y rfl rfl (Y_pick_t rfl rfl) ?_
      refine TL_y rfl rfl (Y_move rfl) ?_
      refine TL_gskip rfl rfl rfl rfl ?_
      refine TL_gskip rfl rfl rfl rfl ?_
      refine TL_gskip rfl rfl rfl rfl ?_
      refine TL_gskip rfl rfl rfl rfl ?_
      refine TL_y rfl rfl (Y_pick_t rfl rfl) ?_
      refine TL_y rfl rfl (Y_move rfl) ?_
      refine TL_gskip rfl rfl rfl rfl ?_
      refine TL_gskip rfl rfl rfl rfl ?_
      refine TL_gskip rfl rfl rfl rfl ?_
      refine TL_gskip rfl rfl rfl rfl ?_
      refine TL_y rfl rfl (Y_pick_t rfl rfl) ?_
      refine TL_y rfl rfl (Y_move rfl) ?_
      refine TL_gskip rfl rfl rfl rfl ?_
      refine TL_gskip rfl rfl rfl rfl ?_
      refine TL_gskip rfl rfl rfl rfl ?_
      refine TL_gskip rfl rfl rfl rfl ?_
      refine TL_y rfl rfl (Y_pick_t rfl rfl) ?_
      refine TL_chain_end rfl ?_ (by repeat (first | exact sub_refl | refine sub_ext rfl ?_)) GivesTo.g
      exact congrArg Value.bool (decide_eq_true (by unfold HeadM; first | (simp [*]; done) | (simp [*]; omega))).symm
    · refine TL_grun rfl rfl ?_
      refine TL_y rfl rfl (Y_field_addr rfl) ?_
      refine TL_grun rfl rfl ?_
      refine TL_y rfl rfl (Y_load rfl rfl) ?_
      refine TL_grun rfl rfl ?_
      refine TL_call rfl rfl (refTo_spec _ _ _) ?_
      rintro _ _ ⟨rfl, rfl⟩
      refine TL_grun rfl rfl ?_
      refine TL_y rfl rfl (Y_not_d rfl) ?_
      refine TL_y rfl rfl (Y_pick_f rfl rfl) ?_
      refine TL_y rfl rfl (Y_move rfl) ?_
      refine TL_splitd 15 rfl (fun h15 => ?_) (fun h15 => ?_)
      · refine TL_gskip rfl rfl rfl rfl ?_
        refine TL_gskip rfl rfl rfl rfl ?_
        refine TL_gskip rfl rfl rfl rfl ?_
        refine TL_gskip rfl rfl rfl rfl ?_
        refine TL_y rfl rfl (Y_pick_t rfl rfl) ?_
        refine TL_y rfl rfl (Y_move rfl) ?_
        refine TL_gskip rfl rfl rfl rfl ?_
        refine TL_gskip rfl rfl rfl rfl ?_
        refine TL_gskip rfl rfl rfl rfl ?_
        refine TL_gskip rfl rfl rfl rfl ?_
        refine TL_y rfl rfl (Y_pick_t rfl rfl) ?_
        refine TL_y rfl rfl (Y_move rfl) ?_
        refine TL_gskip rfl rfl rfl rfl ?_
        refine TL_gskip rfl rfl rfl rfl ?_
        refine TL_gskip rfl rfl rfl rfl ?_
        refine TL_gskip rfl rfl rfl rfl ?_
        refine TL_y rfl rfl (Y_pick_t rfl rfl) ?_
        refine TL_y rfl rfl (Y_move rfl) ?_
        refine TL_gskip rfl rfl rfl rfl ?_
        refine TL_gskip rfl rfl rfl rfl ?_
        refine TL_gskip rfl rfl rfl rfl ?_
        refine TL_gskip rfl rfl rfl rfl ?_
        refine TL_y rfl rfl (Y_pick_t rfl rfl) ?_
        refine TL_y rfl rfl (Y_move rfl) ?_
        refine TL_gskip rfl rfl rfl rfl ?_
        refine TL_gskip rfl rfl rfl rfl ?_
        refine TL_gskip rfl rfl rfl rfl ?_
        refine TL_gskip rfl rfl rfl rfl ?_
        refine TL_y rfl rfl (Y_pick_t rfl rfl) ?_
        refine TL_y rfl rfl (Y_move rfl) ?_
        refine TL_gskip rfl rfl rfl rfl ?_
        refine TL_gskip rfl rfl rfl rfl ?_
        refine TL_gskip rfl rfl rfl rfl ?_
        refine TL_gskip rfl rfl rfl rfl ?_
        refine TL_y rfl rfl (Y_pick_t rfl rfl) ?_
        refine TL_y rfl rfl (Y_move rfl) ?_
        refine TL_gskip rfl rfl rfl rfl ?_
        refine TL_gskip rfl rfl rfl rfl ?_
        refine TL_gskip rfl rfl rfl rfl ?_
        refine TL_gskip rfl rfl rfl rfl ?_
        refine TL_y rfl rfl (Y_pick_t rfl rfl) ?_
        refine TL_y rfl rfl (Y_move rfl) ?_
        refine TL_gskip rfl rfl rfl rfl ?_
        refine TL_gskip rfl rfl rfl rfl ?_
        refine TL_gskip rfl rfl rfl rfl ?_
        refine TL_gskip rfl rfl rfl rfl ?_
        refine TL_y rfl rfl (Y_pick_t rfl rfl) ?_
        refine TL_chain_end rfl ?_ (by repeat (first | exact sub_refl | refine sub_ext rfl ?_)) GivesTo.g
        exact congrArg Value.bool (decide_eq_true (by unfold HeadM; first | (simp [*]; done) | (simp [*]; omega))).symm
      · refine TL_grun rfl rfl ?_
        refine TL_y rfl rfl (Y_field_addr rfl) ?_
        refine TL_grun rfl rfl ?_
        refine TL_y rfl rfl (Y_load rfl rfl) ?_
        refine TL_grun rfl rfl ?_
        refine TL_call rfl rfl (refTo_spec _ _ _) ?_
        rintro _ _ ⟨rfl, rfl⟩
        refine TL_grun rfl rfl ?_
        refine TL_y rfl rfl (Y_not_d rfl) ?_
        refine TL_y rfl rfl (Y_pick_f rfl rfl) ?_
        refine TL_y rfl rfl (Y_move rfl) ?_
        refine TL_splitd 21 rfl (fun h21 => ?_) (fun h21 => ?_)
        · refine TL_gskip rfl rfl rfl rfl ?_
          refine TL_gskip rfl rfl rfl rfl ?_
          refine TL_gskip rfl rfl rfl rfl ?_
          refine TL_gskip rfl rfl rfl rfl ?_
          refine TL_y rfl rfl (Y_pick_t rfl rfl) ?_
          refine TL_y rfl rfl (Y_move rfl) ?_
          refine TL_gskip rfl rfl rfl rfl ?_
          refine TL_gskip rfl rfl rfl rfl ?_
          refine TL_gskip rfl rfl rfl rfl ?_
          refine TL_gskip rfl rfl rfl rfl ?_
          refine TL_y rfl rfl (Y_pick_t rfl rfl) ?_
          refine TL_y rfl rfl (Y_move rfl) ?_
          refine TL_gskip rfl rfl rfl rfl ?_
          refine TL_gskip rfl rfl rfl rfl ?_
          refine TL_gskip rfl rfl rfl rfl ?_
          refine TL_gskip rfl rfl rfl rfl ?_
          refine TL_y rfl rfl (Y_pick_t rfl rfl) ?_
          refine TL_y rfl rfl (Y_move rfl) ?_
          refine TL_gskip rfl rfl rfl rfl ?_
          refine TL_gskip rfl rfl rfl rfl ?_
          refine TL_gskip rfl rfl rfl rfl ?_
          refine TL_gskip rfl rfl rfl rfl ?_
          refine TL_y rfl rfl (Y_pick_t rfl rfl) ?_
          refine TL_y rfl rfl (Y_move rfl) ?_
          refine TL_gskip rfl rfl rfl rfl ?_
          refine TL_gskip rfl rfl rfl rfl ?_
          refine TL_gskip rfl rfl rfl rfl ?_
          refine TL_gskip rfl rfl rfl rfl ?_
          refine TL_y rfl rfl (Y_pick_t rfl rfl) ?_
          refine TL_y rfl rfl (Y_move rfl) ?_
          refine TL_gskip rfl rfl rfl rfl ?_
          refine TL_gskip rfl rfl rfl rfl ?_
          refine TL_gskip rfl rfl rfl rfl ?_
          refine TL_gskip rfl rfl rfl rfl ?_
          refine TL_y rfl rfl (Y_pick_t rfl rfl) ?_
          refine TL_y rfl rfl (Y_move rfl) ?_
          refine TL_gskip rfl rfl rfl rfl ?_
          refine TL_gskip rfl rfl rfl rfl ?_
          refine TL_gskip rfl rfl rfl rfl ?_
          refine TL_gskip rfl rfl rfl rfl ?_
          refine TL_y rfl rfl (Y_pick_t rfl rfl) ?_
          refine TL_chain_end rfl ?_ (by repeat (first | exact sub_refl | refine sub_ext rfl ?_)) GivesTo.g
          exact congrArg Value.bool (decide_eq_true (by unfold HeadM; first | (simp [*]; done) | (simp [*]; omega))).symm
        · refine TL_grun rfl rfl ?_
          refine TL_y rfl rfl (Y_field_addr rfl) ?_
          refine TL_grun rfl rfl ?_
          refine TL_y rfl rfl (Y_load_agg rfl rfl) ?_
          refine TL_grun rfl rfl ?_
          refine TL_call rfl rfl (rightBallot_spec _ m.bal) ?_
          rintro _ _ ⟨rfl, rfl⟩
          refine TL_grun rfl rfl ?_
          refine TL_y rfl rfl (Y_not_d rfl) ?_
          refine TL_y rfl rfl (Y_pick_f rfl rfl) ?_
          refine TL_y rfl rfl (Y_move rfl) ?_
          refine TL_splitd 27 rfl (fun h27 => ?_) (fun h27 => ?_)
          · refine TL_gskip rfl rfl rfl rfl ?_
            refine TL_gskip rfl rfl rfl rfl ?_
            refine TL_gskip rfl rfl rfl rfl ?_
            refine TL_gskip rfl rfl rfl rfl ?_
            refine TL_y rfl rfl (Y_pick_t rfl rfl) ?_
            refine TL_y rfl rfl (Y_move rfl) ?_
            refine TL_gskip rfl rfl rfl rfl ?_
            refine TL_gskip rfl rfl rfl rfl ?_
            refine TL_gskip rfl rfl rfl rfl ?_
            refine TL_gskip rfl rfl rfl rfl ?_
            refine TL_y rfl rfl (Y_pick_t rfl rfl) ?_
            refine TL_y rfl rfl (Y_move rfl) ?_
            refine TL_gskip rfl rfl rfl rfl ?_
            refine TL_gskip rfl rfl rfl rfl ?_
            refine TL_gskip rfl rfl rfl rfl ?_
            refine TL_gskip rfl rfl rfl rfl ?_
            refine TL_y rfl rfl (Y_pick_t rfl rfl) ?_
            refine TL_y rfl rfl (Y_move rfl) ?_
            refine TL_gskip rfl rfl rfl rfl ?_
            refine TL_gskip rfl rfl rfl rfl ?_
            refine TL_gskip rfl rfl rfl rfl ?_
            refine TL_gskip rfl rfl rfl rfl ?_
            refine TL_y rfl rfl (Y_pick_t rfl rfl) ?_
            refine TL_y rfl rfl (Y_move rfl) ?_
            refine TL_gskip rfl rfl rfl rfl ?_
            refine TL_gskip rfl rfl rfl rfl ?_
            refine TL_gskip rfl rfl rfl rfl ?_
            refine TL_gskip rfl rfl rfl rfl ?_
            refine TL_y rfl rfl (Y_pick_t rfl rfl) ?_
            refine TL_y rfl rfl (Y_move rfl) ?_
            refine TL_gskip rfl rfl rfl rfl ?_
            refine TL_gskip rfl rfl rfl rfl ?_
            refine TL_gskip rfl rfl rfl rfl ?_
            refine TL_gskip rfl rfl rfl rfl ?_
            refine TL_y rfl rfl (Y_pick_t rfl rfl) ?_
            refine TL_chain_end rfl ?_ (by repeat (first | exact sub_refl | refine sub_ext rfl ?_)) GivesTo.g
            exact congrArg Value.bool (decide_eq_true (by unfold HeadM; first | (simp [*]; done) | (simp [*]; omega))).symm
          · refine TL_grun rfl rfl ?_
            refine TL_y rfl rfl (Y_field_addr rfl) ?_
            refine TL_grun rfl rfl ?_
            refine TL_y rfl rfl (Y_load rfl rfl) ?_
            refine TL_grun rfl rfl ?_
            refine TL_call rfl rfl (refTo_spec _ _ _) ?_
            rintro _ _ ⟨rfl, rfl⟩
            refine TL_grun rfl rfl ?_
            refine TL_y rfl rfl (Y_not_d rfl) ?_
            refine TL_y rfl rfl (Y_pick_f rfl rfl) ?_
            refine TL_y rfl rfl (Y_move rfl) ?_
            refine TL_splitd 33 rfl (fun h33 => ?_) (fun h33 => ?_)
            · refine TL_gskip rfl rfl rfl rfl ?_
              refine TL_gskip rfl rfl rfl rfl ?_
              refine TL_gskip rfl rfl rfl rfl ?_
              refine TL_gskip rfl rfl rfl rfl ?_
              refine TL_y rfl rfl (Y_pick_t rfl rfl) ?_
              refine TL_y rfl rfl (Y_move rfl) ?_
              refine TL_gskip rfl rfl rfl rfl ?_
              refine TL_gskip rfl rfl rfl rfl ?_
              refine TL_gskip rfl rfl rfl rfl ?_
              refine TL_gskip rfl rfl rfl rfl ?_
              refine TL_y rfl rfl (Y_pick_t rfl rfl) ?_
              refine TL_y rfl rfl (Y_move rfl) ?_
              refine TL_gskip rfl rfl rfl rfl ?_
              refine TL_gskip rfl rfl rfl rfl ?_
              refine TL_gskip rfl rfl rfl rfl ?_
              refine TL_gskip rfl rfl rfl rfl ?_
              refine TL_y rfl rfl (Y_pick_t rfl rfl) ?_
              refine TL_y rfl rfl (Y_move rfl) ?_
              refine TL_gskip rfl rfl rfl rfl ?_
              refine TL_gskip rfl rfl rfl rfl ?_
              refine TL_gskip rfl rfl rfl rfl ?_
              refine TL_gskip rfl rfl rfl rfl ?_
              refine TL_y rfl rfl (Y_pick_t rfl rfl) ?_
              refine TL_y rfl rfl (Y_move rfl) ?_
              refine TL_gskip rfl rfl rfl rfl ?_
              refine TL_gskip rfl rfl rfl rfl ?_
              refine TL_gskip rfl rfl rfl rfl ?_
              refine TL_gskip rfl rfl rfl rfl ?_
              refine TL_y rfl rfl (Y_pick_t rfl rfl) ?_
              refine TL_chain_end rfl ?_ (by repeat (first | exact sub_refl | refine sub_ext rfl ?_)) GivesTo.g
              exact congrArg Value.bool (decide_eq_true (by unfold HeadM; first | (simp [*]; done) | (simp [*]; omega))).symm
            · refine TL_grun rfl rfl ?_
              refine TL_y rfl rfl (Y_field_addr rfl) ?_
              refine TL_grun rfl rfl ?_
              refine TL_y rfl rfl (Y_load_agg rfl rfl) ?_
              refine TL_grun rfl rfl ?_
              refine TL_call rfl rfl (rightEntry_spec m.en hx.en slk) ?_
              rintro _ _ ⟨rfl, rfl⟩
              refine TL_grun rfl rfl ?_
              refine TL_y rfl rfl (Y_not_d rfl) ?_
              refine TL_y rfl rfl (Y_pick_f rfl rfl) ?_
              refine TL_y rfl rfl (Y_move rfl) ?_
              refine TL_splitd 39 rfl (fun h39 => ?_) (fun h39 => ?_)
              · refine TL_gskip rfl rfl rfl rfl ?_
                refine TL_gskip rfl rfl rfl rfl ?_
                refine TL_gskip rfl rfl rfl rfl ?_
                refine TL_gskip rfl rfl rfl rfl ?_
                refine TL_y rfl rfl (Y_pick_t rfl rfl) ?_
                refine TL_y rfl rfl (Y_move rfl) ?_
                refine TL_gskip rfl rfl rfl rfl ?_
                refine TL_gskip rfl rfl rfl rfl ?_
                refine TL_gskip rfl rfl rfl rfl ?_
                refine TL_gskip rfl rfl rfl rfl ?_
                refine TL_y rfl rfl (Y_pick_t rfl rfl) ?_
                refine TL_y rfl rfl (Y_move rfl) ?_
                refine TL_gskip rfl rfl rfl rfl ?_
                refine TL_gskip rfl rfl rfl rfl ?_
                refine TL_gskip rfl rfl rfl rfl ?_
                refine TL_gskip rfl rfl rfl rfl ?_
                refine TL_y rfl rfl (Y_pick_t rfl rfl) ?_
                refine TL_y rfl rfl (Y_move rfl) ?_
                refine TL_gskip rfl rfl rfl rfl ?_
                refine TL_gskip rfl rfl rfl rfl ?_
                refine TL_gskip rfl rfl rfl rfl ?_
                refine TL_gskip rfl rfl rfl rfl ?_
                refine TL_y rfl rfl (Y_pick_t rfl rfl) ?_
                refine TL_chain_end rfl ?_ (by repeat (first | exact sub_refl | refine sub_ext rfl ?_)) GivesTo.g
                exact congrArg Value.bool (decide_eq_true (by unfold HeadM; first | (simp [*]; done) | (simp [*]; omega))).symm
              · refine TL_grun rfl rfl ?_
                refine TL_y rfl rfl (Y_field_addr rfl) ?_
                refine TL_grun rfl rfl ?_
                refine TL_y rfl rfl (Y_load rfl rfl) ?_
                refine TL_grun rfl rfl ?_
                refine TL_y rfl rfl (Y_len rfl) ?_
                refine TL_grun rfl rfl ?_
                refine TL_y rfl rfl (Y_gt rfl rfl) ?_
                refine TL_y rfl rfl (Y_pick_f rfl rfl) ?_
                refine TL_y rfl rfl (Y_move rfl) ?_
                refine TL_splitd 45 rfl (fun h45 => ?_) (fun h45 => ?_)
                · refine TL_gskip rfl rfl rfl rfl ?_
                  refine TL_gskip rfl rfl rfl rfl ?_
                  refine TL_gskip rfl rfl rfl rfl ?_
                  refine TL_gskip rfl rfl rfl rfl ?_
                  refine TL_y rfl rfl (Y_pick_t rfl rfl) ?_
                  refine TL_y rfl rfl (Y_move rfl) ?_
                  refine TL_gskip rfl rfl rfl rfl ?_
                  refine TL_gskip rfl rfl rfl rfl ?_
                  refine TL_gskip rfl rfl rfl rfl ?_
                  refine TL_gskip rfl rfl rfl rfl ?_
                  refine TL_y rfl rfl (Y_pick_t rfl rfl) ?_
                  refine TL_y rfl rfl (Y_move rfl) ?_
                  refine TL_gskip rfl rfl rfl rfl ?_
                  refine TL_gskip rfl rfl rfl rfl ?_
                  refine TL_gskip rfl rfl rfl rfl ?_
                  refine TL_gskip rfl rfl rfl rfl ?_
                  refine TL_y rfl rfl (Y_pick_t rfl rfl) ?_
                  refine TL_chain_end rfl ?_ (by repeat (first | exact sub_refl | refine sub_ext rfl ?_)) GivesTo.g
                  exact congrArg Value.bool (decide_eq_true (by unfold HeadM; first | (simp [*]; done) | (simp [*]; omega))).symm
                · refine TL_grun rfl rfl ?_
                  refine TL_y rfl rfl (Y_field_addr rfl) ?_
                  refine TL_grun rfl rfl ?_
                  refine TL_y rfl rfl (Y_load rfl rfl) ?_
                  refine TL_grun rfl rfl ?_
                  refine TL_call rfl rfl (refVector_spec slk) ?_
                  rintro _ _ ⟨rfl, rfl⟩
                  refine TL_grun rfl rfl ?_
                  refine TL_y rfl rfl (Y_not_d rfl) ?_
                  refine TL_y rfl rfl (Y_pick_f rfl rfl) ?_
                  refine TL_y rfl rfl (Y_move rfl) ?_
                  refine TL_splitd 51 rfl (fun h51 => ?_) (fun h51 => ?_)
                  · refine TL_gskip rfl rfl rfl rfl ?_
                    refine TL_gskip rfl rfl rfl rfl ?_
                    refine TL_gskip rfl rfl rfl rfl ?_
                    refine TL_gskip rfl rfl rfl rfl ?_
                    refine TL_y rfl rfl (Y_pick_t rfl rfl) ?_
                    refine TL_y rfl rfl (Y_move rfl) ?_
                    refine TL_gskip rfl rfl rfl rfl ?_
                    refine TL_gskip rfl rfl rfl rfl ?_
                    refine TL_gskip rfl rfl rfl rfl ?_
                    refine TL_gskip rfl rfl rfl rfl ?_
                    refine TL_y rfl rfl (Y_pick_t rfl rfl) ?_
                    refine TL_chain_end rfl ?_ (by repeat (first | exact sub_refl | refine sub_ext rfl ?_)) GivesTo.g
                    exact congrArg Value.bool (decide_eq_true (by unfold HeadM; first | (simp [*]; done) | (simp [*]; omega))).symm
                  · refine TL_grun rfl rfl ?_
                    refine TL_y rfl rfl (Y_field_addr rfl) ?_
                    refine TL_grun rfl rfl ?_
                    refine TL_y rfl rfl (Y_load rfl rfl) ?_
                    refine TL_grun rfl rfl ?_
                    refine TL_y rfl rfl (Y_len rfl) ?_
                    refine TL_grun rfl rfl ?_
                    refine TL_y rfl rfl (Y_gt rfl rfl) ?_
                    refine TL_y rfl rfl (Y_pick_f rfl rfl) ?_
                    refine TL_y rfl rfl (Y_move rfl) ?_
                    refine TL_splitd 57 rfl (fun h57 => ?_) (fun h57 => ?_)
                    · refine TL_gskip rfl rfl rfl rfl ?_
                      refine TL_gskip rfl rfl rfl rfl ?_
                      refine TL_gskip rfl rfl rfl rfl ?_
                      refine TL_gskip rfl rfl rfl rfl ?_
                      refine TL_y rfl rfl (Y_pick_t rfl rfl) ?_
                      refine TL_chain_end rfl ?_ (by repeat (first | exact sub_refl | refine sub_ext rfl ?_)) GivesTo.g
                      exact congrArg Value.bool (decide_eq_true (by unfold HeadM; first | (simp [*]; done) | (simp [*]; omega))).symm
                    · refine TL_grun rfl rfl ?_
                      refine TL_y rfl rfl (Y_field_addr rfl) ?_
                      refine TL_grun rfl rfl ?_
                      refine TL_y rfl rfl (Y_load rfl rfl) ?_
                      refine TL_grun rfl rfl ?_
                      refine TL_call rfl rfl (refTo_spec _ _ _) ?_
                      rintro _ _ ⟨rfl, rfl⟩
                      refine TL_grun rfl rfl ?_
                      refine TL_y rfl rfl (Y_not_d rfl) ?_
                      refine TL_y rfl rfl (Y_pick_f rfl rfl) ?_
                      refine TL_chain_end rfl ?_ (by repeat (first | exact sub_refl | refine sub_ext rfl ?_)) GivesTo.g
                      exact congrArg Value.bool (decide_eq_decide.2 (not_congr ⟨fun h => ⟨Classical.not_not.1 h9, Classical.not_not.1 h15, Classical.not_not.1 h21, Classical.not_not.1 h27, Classical.not_not.1 h33, Classical.not_not.1 h39, by omega, Classical.not_not.1 h51, by omega, h⟩, fun h => h.2.2.2.2.2.2.2.2.2⟩))
  refine TL_nil ?_
  refine T_if rfl (fun h62 => ?_) (fun h62 => ?_)
  · refine T_region ?_
    refine TL_y rfl rfl (Y_assign rfl) ?_
    refine TL_nil ?_
    refine T_ret ?_
    refine thenS_ret ?_
    exact RetG_1 (.inl rfl) rfl (ResV.tmp rfl) GivesTo.g (⟨by rw [decide_eq_false]; intro h; exact h62 (head_msg.1 h).1, rfl⟩)
  · refine T_skip ?_
    refine thenS_normal ?_
    refine T_seq ?_
    refine T_region ?_
    refine TL_y rfl rfl (Y_assign rfl) ?_
    refine TL_nil ?_
    refine T_block ?_
    refine T_loopK (σ := Nat) [1] (fun i => i ≤ m.voted.length ∧ ∀ v ∈ m.voted.take i, rVoted v) (fun i kv => (3, .int .i64 (i : Int)) :: kv) (fun i => cells b1 (msgC m p) 71 :: mL m p L) (fun i => m.voted.length - i) (0) rfl (⟨Nat.zero_le _, by simp⟩) (GivesTo.g) (sub_cons rfl (sub_cons rfl (sub_nil))) ?_
    intro i hi
    refine T_seq ?_
    refine T_region ?_
    refine TL_y rfl rfl (Y_move rfl) ?_
    refine TL_y rfl rfl (Y_field_addr rfl) ?_
    refine TL_y rfl rfl (Y_load rfl rfl) ?_
    refine TL_y rfl rfl (Y_len rfl) ?_
    refine TL_y rfl rfl (Y_lt rfl rfl) ?_
    refine TL_nil ?_
    refine T_if rfl (fun h67 => ?_) (fun h67 => ?_)
    · refine T_skip ?_
      refine thenS_normal ?_
      refine T_seq ?_
      refine T_block ?_
      refine T_region ?_
      refine TL_y rfl rfl (Y_field_addr rfl) ?_
      refine TL_y rfl rfl (Y_load rfl rfl) ?_
      refine TL_y rfl rfl (Y_move rfl) ?_
      obtain ⟨u, hu⟩ : ∃ u, m.voted[i]? = some u := ⟨_, List.getElem?_eq_getElem (by omega)⟩
      refine TL_index_n rfl rfl rfl (rfl) (sln) (hu) ?_
      intro bn73 on73 hA73 hk73
      have hu73 := hu
      refine TL_y rfl rfl (Y_field_addr2 rfl) ?_
      refine TL_y rfl rfl (Y_load_nx rfl hk73 hu73 (fun _ => rfl)) ?_
      refine TL_call rfl rfl (refTo_spec _ _ _) ?_
      rintro _ _ ⟨rfl, rfl⟩
      refine TL_y rfl rfl (Y_not_d rfl) ?_
      refine TL_y rfl rfl (Y_move rfl) ?_
      refine TL_splitd 78 rfl (fun h78 => ?_) (fun h78 => ?_)
      · refine TL_gskip rfl rfl rfl rfl ?_
        refine TL_gskip rfl rfl rfl rfl ?_
        refine TL_gskip rfl rfl rfl rfl ?_
        refine TL_gskip rfl rfl rfl rfl ?_
        refine TL_gskip rfl rfl rfl rfl ?_
        refine TL_gskip rfl rfl rfl rfl ?_
        refine TL_gskip rfl rfl rfl rfl ?_
        refine TL_gskip rfl rfl rfl rfl ?_
        refine TL_y rfl rfl (Y_pick_t rfl rfl) ?_
        refine TL_y rfl rfl (Y_move rfl) ?_
        refine TL_gskip rfl rfl rfl rfl ?_
        refine TL_gskip rfl rfl rfl rfl ?_
        refine TL_gskip rfl rfl rfl rfl ?_
        refine TL_gskip rfl rfl rfl rfl ?_
        refine TL_gskip rfl rfl rfl rfl ?_
        refine TL_gskip rfl rfl rfl rfl ?_
        refine TL_gskip rfl rfl rfl rfl ?_
        refine TL_gskip rfl rfl rfl rfl ?_
        refine TL_y rfl rfl (Y_pick_t rfl rfl) ?_
        refine TL_nil ?_
        refine T_cond_true rfl ?_
        refine T_region ?_
        refine TL_y rfl rfl (Y_assign rfl) ?_
        refine TL_nil ?_
        refine T_ret ?_
        refine inB_ret ?_
        refine thenS_ret ?_
        refine thenS_ret ?_
        refine inB_ret ?_
        refine thenS_ret ?_
        exact RetG_1 (.inl rfl) rfl (ResV.tmp rfl) GivesTo.g (⟨by rw [decide_eq_false]; intro h; exact h78 ((head_msg.1 h).2.1 u (List.mem_of_getElem? hu)).1, rfl⟩)
      · refine TL_grun rfl rfl ?_
        refine TL_y rfl rfl (Y_field_addr rfl) ?_
        refine TL_grun rfl rfl ?_
        refine TL_y rfl rfl (Y_load rfl rfl) ?_
        refine TL_grun rfl rfl ?_
        refine TL_y rfl rfl (Y_move rfl) ?_
        refine TL_grun rfl rfl ?_
        refine TL_index_n rfl rfl rfl (rfl) (sln) (hu) ?_
        intro bn82 on82 hA82 hk82
        have hu82 := hu
        refine TL_grun rfl rfl ?_
        refine TL_y rfl rfl (Y_field_addr2 rfl) ?_
        refine TL_grun rfl rfl ?_
        refine TL_load_nx rfl rfl hk82 hu82 (fun _ => rfl) ?_
        intro p84 ok84
        simp only [List.cons_append, List.nil_append]
        refine TL_grun rfl rfl ?_
        refine TL_call rfl rfl (rightBallot_spec _ u.bal) ?_
        rintro _ _ ⟨rfl, rfl⟩
        refine TL_grun rfl rfl ?_
        refine TL_y rfl rfl (Y_not_d rfl) ?_
        refine TL_y rfl rfl (Y_pick_f rfl rfl) ?_
        refine TL_y rfl rfl (Y_move rfl) ?_
        refine TL_splitd 88 rfl (fun h88 => ?_) (fun h88 => ?_)
        · refine TL_gskip rfl rfl rfl rfl ?_
          refine TL_gskip rfl rfl rfl rfl ?_
          refine TL_gskip rfl rfl rfl rfl ?_
          refine TL_gskip rfl rfl rfl rfl ?_
          refine TL_gskip rfl rfl rfl rfl ?_
          refine TL_gskip rfl rfl rfl rfl ?_
          refine TL_gskip rfl rfl rfl rfl ?_
          refine TL_gskip rfl rfl rfl rfl ?_
          refine TL_y rfl rfl (Y_pick_t rfl rfl) ?_
          refine TL_nil ?_
          refine T_cond_true rfl ?_
          refine T_region ?_
          refine TL_y rfl rfl (Y_assign rfl) ?_
          refine TL_nil ?_
          refine T_ret ?_
          refine inB_ret ?_
          refine thenS_ret ?_
          refine thenS_ret ?_
          refine inB_ret ?_
          refine thenS_ret ?_
          exact RetG_1 (.inl rfl) rfl (ResV.tmp rfl) GivesTo.g (⟨by rw [decide_eq_false]; intro h; exact h88 ((head_msg.1 h).2.1 u (List.mem_of_getElem? hu)).2.1, rfl⟩)
        · refine TL_grun rfl rfl ?_
          refine TL_y rfl rfl (Y_field_addr rfl) ?_
          refine TL_grun rfl rfl ?_
          refine TL_y rfl rfl (Y_load rfl rfl) ?_
          refine TL_grun rfl rfl ?_
          refine TL_y rfl rfl (Y_move rfl) ?_
          refine TL_grun rfl rfl ?_
          refine TL_index_n rfl rfl rfl (rfl) (sln) (hu) ?_
          intro bn92 on92 hA92 hk92
          have hu92 := hu
          refine TL_grun rfl rfl ?_
          refine TL_y rfl rfl (Y_field_addr2 rfl) ?_
          refine TL_grun rfl rfl ?_
          refine TL_load_nx rfl rfl hk92 hu92 (fun _ => rfl) ?_
          intro p94 ok94
          simp only [List.cons_append, List.nil_append]
          refine TL_grun rfl rfl ?_
          refine TL_call rfl rfl (rightEntry_spec u.en ok94.2.2.2 slk) ?_
          rintro _ _ ⟨rfl, rfl⟩
          refine TL_grun rfl rfl ?_
          refine TL_y rfl rfl (Y_not_d rfl) ?_
          refine TL_y rfl rfl (Y_pick_f rfl rfl) ?_
          refine TL_nil ?_
          refine T_if rfl (fun h97 => ?_) (fun h97 => ?_)
          · refine T_region ?_
            refine TL_y rfl rfl (Y_assign rfl) ?_
            refine TL_nil ?_
            refine T_ret ?_
            refine inB_ret ?_
            refine thenS_ret ?_
            refine thenS_ret ?_
            refine inB_ret ?_
            refine thenS_ret ?_
            exact RetG_1 (.inl rfl) rfl (ResV.tmp rfl) GivesTo.g (⟨by rw [decide_eq_false]; intro h; exact h97 ((head_msg.1 h).2.1 u (List.mem_of_getElem? hu)).2.2, rfl⟩)
          · refine T_skip ?_
            refine inB_normal ?_
            refine thenS_normal ?_
            refine T_region_last ?_
            refine TL_y rfl rfl (Y_move rfl) ?_
            refine TL_y rfl rfl (Y_add rfl rfl (by omega)) ?_
            refine TL_name 69 (v' := .int .i64 ((i + 1 : Nat) : Int)) rfl (rfl) ?_
            refine TL_y rfl rfl (Y_assign rfl) ?_
            refine TL_nil ?_
            refine thenS_normal ?_
            exact ⟨i + 1, ⟨by omega, by rw [take_at hu]; intro n hn; rcases List.mem_append.1 hn with h | h; exact hi.2 n h; (simp at h; subst h; exact ⟨Classical.not_not.1 h78, Classical.not_not.1 h88, Classical.not_not.1 h97⟩)⟩, by omega, holds_to (sub_cons rfl (sub_cons rfl (sub_nil))) GivesTo.g⟩
    · refine T_exit ?_
      refine thenS_exit ?_
      refine thenS_exit ?_
      refine inB_hit ?_
      refine thenS_normal ?_
      refine T_seq ?_
      have hav : ∀ v ∈ m.voted, rVoted v := by have := hi.2; rwa [List.take_of_length_le (by omega)] at this
      refine T_region ?_
      refine TL_y rfl rfl (Y_assign rfl) ?_
      refine TL_nil ?_
      refine T_block ?_
      refine T_loopK (σ := Nat) [1] (fun j => j ≤ m.events.length ∧ ∀ v ∈ m.events.take j, rEvent v) (fun j kv => (4, .int .i64 (j : Int)) :: kv) (fun j => cells b1 (msgC m p) 71 :: mL m p L) (fun j => m.events.length - j) (0) rfl (⟨Nat.zero_le _, by simp⟩) (GivesTo.g) (sub_cons rfl (sub_cons rfl (sub_nil))) ?_
      intro j hj
      refine T_seq ?_
      refine T_region ?_
      refine TL_y rfl rfl (Y_move rfl) ?_
      refine TL_y rfl rfl (Y_field_addr rfl) ?_
      refine TL_y rfl rfl (Y_load rfl rfl) ?_
      refine TL_y rfl rfl (Y_len rfl) ?_
      refine TL_y rfl rfl (Y_lt rfl rfl) ?_
      refine TL_nil ?_
      refine T_if rfl (fun h102 => ?_) (fun h102 => ?_)
      · refine T_skip ?_
        refine thenS_normal ?_
        refine T_seq ?_
        refine T_block ?_
        refine T_region ?_
        refine TL_y rfl rfl (Y_field_addr rfl) ?_
        refine TL_y rfl rfl (Y_load rfl rfl) ?_
        refine TL_y rfl rfl (Y_move rfl) ?_
        obtain ⟨u, hu⟩ : ∃ u, m.events[j]? = some u := ⟨_, List.getElem?_eq_getElem (by omega)⟩
        refine TL_index_n rfl rfl rfl (rfl) (sln) (hu) ?_
        intro bn108 on108 hA108 hk108
        have hu108 := hu
        refine TL_load_nx rfl rfl hk108 hu108 (fun _ => rfl) ?_
        intro p109 ok109
        simp only [List.cons_append, List.nil_append]
        refine TL_call rfl rfl (rightEvent_spec u ok109 slk) ?_
        rintro _ _ ⟨rfl, rfl⟩
        refine TL_y rfl rfl (Y_not_d rfl) ?_
        refine TL_nil ?_
        refine T_if rfl (fun h111 => ?_) (fun h111 => ?_)
        · refine T_region ?_
          refine TL_y rfl rfl (Y_assign rfl) ?_
          refine TL_nil ?_
          refine T_ret ?_
          refine inB_ret ?_
          refine thenS_ret ?_
          refine thenS_ret ?_
          refine inB_ret ?_
          refine thenS_ret ?_
          exact RetG_1 (.inl rfl) rfl (ResV.tmp rfl) GivesTo.g (⟨by rw [decide_eq_false]; intro h; exact h111 ((head_msg.1 h).2.2 u (List.mem_of_getElem? hu)), rfl⟩)
        · refine T_skip ?_
          refine inB_normal ?_
          refine thenS_normal ?_
          refine T_region_last ?_
          refine TL_y rfl rfl (Y_move rfl) ?_
          refine TL_y rfl rfl (Y_add rfl rfl (by omega)) ?_
          refine TL_name 104 (v' := .int .i64 ((j + 1 : Nat) : Int)) rfl (rfl) ?_
          refine TL_y rfl rfl (Y_assign rfl) ?_
          refine TL_nil ?_
          refine thenS_normal ?_
          exact ⟨j + 1, ⟨by omega, by rw [take_at hu]; intro n hn; rcases List.mem_append.1 hn with h | h; exact hj.2 n h; (simp at h; subst h; exact Classical.not_not.1 h111)⟩, by omega, holds_to (sub_cons rfl (sub_cons rfl (sub_nil))) GivesTo.g⟩
      · refine T_exit ?_
        refine thenS_exit ?_
        refine thenS_exit ?_
        refine inB_hit ?_
        refine thenS_normal ?_
        refine T_region ?_
        refine TL_y rfl rfl (Y_assign rfl) ?_
        refine TL_nil ?_
        refine T_ret ?_
        have hae : ∀ v ∈ m.events, rEvent v := by have := hj.2; rwa [List.take_of_length_le (by omega)] at this
        exact RetG_1 (.inl rfl) rfl (ResV.tmp rfl) GivesTo.g (⟨by rw [decide_eq_true (head_msg.2 ⟨Classical.not_not.1 h62, hav, hae⟩)], rfl⟩)
end Go.SL
