/- Net: a net's twin. -/
import Derived.Test.YtfmkfpgplpfkhaaSlS
import Derived.Test.YtfmkfpgplpfkhaaNetG
import Derived.Shelf.SlMaps.Clone
import Derived.Shelf.Lay
set_option linter.unusedVariables false
set_option linter.unusedSimpArgs false
namespace Go.Proofs
open Go.Shelf
shelf_lay_g SlLaysW.n5 Slmc 5 at Try 44 as Try.laysCloneP
end Go.Proofs
namespace Go.SL
open Go Go.Proofs
theorem cloneP_spec {κ α : Type} [DecidableEq κ] {K : KeyT κ} {R : Rep α} {ag : Bool} {b : Nat} {m : List (κ × α)} {L : List HP} : Fn Try.prog 44 #[.map (some b)] (omap K R ag b m :: L) (fun v L' => ∃ b2, v = .map (some b2) ∧ L' = omap K R ag b2 m :: omap K R ag b m :: L) := fun o w hs => by
  obtain ⟨es, clock, hb, hs2⟩ := omap_twin hs
  refine (AnyW.maps_Clone Try.laysCloneP b es clock w hb).mono ?_
  rintro e w' ⟨rfl, rfl⟩
  exact ⟨_, _, rfl, ⟨_, rfl, rfl⟩, hs2⟩
theorem netFork_spec {L : List HP} {b : Nat} {s : NS} : Fn Try.prog 20 #[.pointer (some ⟨b, 0, none⟩)] (nt b s :: L) (fun v L' => ∃ b2, v = .pointer (some ⟨b2, 0, none⟩) ∧ L' = nt b2 s :: nt b s :: L) := by
  refine Fn_enter Try.func20 rfl rfl rfl rfl ?_
  refine T_region ?_
  refine TL_y rfl rfl (Y_assign rfl) ?_
  refine TL_nil ?_
  refine T_seq ?_
  refine T_region ?_
  refine TL_y rfl rfl (Y_move rfl) ?_
  refine TL_pullk b ?_
  refine TL_call rfl rfl (netMade_spec) ?_
  rintro _ _ ⟨rfl, rfl⟩
  refine TL_name 4 (v' := .bool true) rfl (rfl) ?_
  refine TL_y rfl rfl (Y_not_t rfl) ?_
  refine TL_nil ?_
  refine T_cond_false rfl ?_
  refine T_skip ?_
  refine thenS_normal ?_
  refine T_pullk b ?_
  refine T_nt fun bt hi => ?_
  refine T_region_draw _ [0, 1, 3, 7, 0, 16, 48, 112, 0, 256, 768, 1792, 3840, 8191, 16383, 32767] [] [(0, true), (1, true), (2, true), (3, true), (4, true), (5, true), (6, true), (7, true), (8, true), (9, true), (10, true), (11, true), (12, false), (13, true), (14, false), (15, true)] (by kernel_rfl) (by decide +kernel) (Gives.refl _) ?_
  refine TF_y rfl rfl (Y_move rfl) ?_
  refine TF_y rfl rfl (Y_nil_check rfl) ?_
  refine TF_y rfl rfl (Y_field_addr rfl) ?_
  refine TF_y rfl rfl (Y_load rfl rfl) ?_
  refine TF_y rfl rfl (Y_move rfl) ?_
  refine TF_y rfl rfl (Y_nil_check rfl) ?_
  refine TF_y rfl rfl (Y_field_addr rfl) ?_
  refine TF_y rfl rfl (Y_load rfl rfl) ?_
  refine TF_y rfl rfl (Y_move rfl) ?_
  refine TF_y rfl rfl (Y_nil_check rfl) ?_
  refine TF_y rfl rfl (Y_field_addr rfl) ?_
  refine TF_y rfl rfl (Y_load rfl rfl) ?_
  refine TF_anchor rfl ?_
  refine TL_pullm bt ?_
  refine TL_call rfl rfl (cloneP_spec) ?_
  rintro _ _ ⟨bt2, rfl, rfl⟩
  refine TF_end GivesTo.g ?_
  refine TF_y rfl rfl (Y_build rfl rfl) ?_
  refine TF_anchor rfl ?_
  refine TL_box rfl rfl rfl ?_
  intro b20
  refine TF_end GivesTo.g ?_
  refine TF_y rfl rfl (Y_assign rfl) ?_
  refine TF_nil ?_
  refine T_ret ?_
  refine RetQ.gives (nt_close (bt := bt2) b20 s hi) ?_
  refine RetQ.gives (nt_close (bt := bt) b s hi) ?_
  exact RetG_1 (.inl rfl) rfl (ResV.tmp rfl) GivesTo.g (⟨b20, rfl, rfl⟩)
end Go.SL
