/- Ballots: the vote that must be kept; what must come of every program. -/
import Derived.Test.YtibejpgjgkeheaaBalC
import Derived.Test.YtibejpgjgkeheaaVoted
set_option linter.unusedVariables false
set_option linter.unusedSimpArgs false
namespace Go.SL
open Go Go.Proofs

def betterV (slot : Int) (o : Option VotedD) (v : VotedD) : Option VotedD :=
  if v.slot = slot then (match o with
    | none => some v
    | some b => if 0 < cmpB v.bal b.bal then some v else some b) else o
/-- The vote in a slot that is of the greatest ballot, the first of those. -/
def pickV (slot : Int) (l : List VotedD) : Option VotedD := l.foldl (betterV slot) none
def bestOr (o : Option VotedD) : VotedD := match o with
  | some v => v
  | none => voted0 true
theorem pickV_next {slot : Int} {l : List VotedD} {i : Nat} {u : VotedD} (h : l[i]? = some u) : pickV slot (l.take (i + 1)) = betterV slot (pickV slot (l.take i)) u := by
  rw [List.take_add_one, h]
  simp [pickV, List.foldl_append]
theorem better_no {slot : Int} {o : Option VotedD} {u : VotedD} (h : ¬ u.slot = slot) : betterV slot o u = o := by simp only [betterV, if_neg h]
theorem better_first {slot : Int} {o : Option VotedD} {u : VotedD} (h : u.slot = slot) (ho : o.isSome = false) : betterV slot o u = some u := by
  cases o with
  | none => simp only [betterV, if_pos h]
  | some b => cases ho
theorem better_more {slot : Int} {o : Option VotedD} {u : VotedD} (h : u.slot = slot) (ho : o.isSome = true) (hc : 0 < cmpB u.bal (bestOr o).bal) : betterV slot o u = some u := by
  cases o with
  | none => cases ho
  | some b => simp only [betterV, if_pos h]; rw [if_pos (show 0 < cmpB u.bal b.bal from hc)]
theorem better_less {slot : Int} {o : Option VotedD} {u : VotedD} (h : u.slot = slot) (ho : o.isSome = true) (hc : ¬ 0 < cmpB u.bal (bestOr o).bal) : betterV slot o u = o := by
  cases o with
  | none => cases ho
  | some b => simp only [betterV, if_pos h]; rw [if_neg (show ¬ 0 < cmpB u.bal b.bal from hc)]
theorem bestOr_some (u : VotedD) : bestOr (some u) = u := rfl
structure PickSt where
  i : Nat
  A : Option Addr
  c : Nat
theorem pick_spec {L : List HP} {A : Option Addr} {c : Nat} {l : List VotedD} (hk : SlK L votedR A c l) (slot : Int) : Fn Try.prog 14 #[.slice A l.length c, .int .i64 slot] L (fun v L' => ∃ A' c', v = .tuple #[.agg (entryC (bestOr (pickV slot l)).en (A', c')).toArray, .bool (pickV slot l).isSome] ∧ L' = sl (intR .i64) A' c' (bestOr (pickV slot l)).en.order.cut :: L) := by
  refine Fn_enter Try.func14 rfl rfl rfl rfl ?_
  refine hk.lens fun hl => ?_
  simp only [maxEl] at hl
  refine T_gives hk.lay ?_
  refine T_region ?_
  refine TL_alloc rfl rfl ?_
  intro b4
  refine TL_y rfl rfl (Y_assign rfl) ?_
  refine TL_nil ?_
  refine T_region ?_
  refine TL_y rfl rfl (Y_build rfl rfl) ?_
  refine TL_y rfl rfl (Y_build rfl rfl) ?_
  refine TL_alloc rfl rfl ?_
  intro b6
  refine TL_store rfl rfl rfl rfl rfl rfl ?_
  refine TL_nil ?_
  refine T_region ?_
  refine TL_y rfl rfl (Y_assign rfl) ?_
  refine TL_nil ?_
  refine T_seq ?_
  refine T_region ?_
  refine TL_y rfl rfl (Y_move rfl) ?_
  refine TL_y rfl rfl (Y_len rfl) ?_
  refine TL_y rfl rfl (Y_move rfl) ?_
  refine TL_nil ?_
  refine T_block ?_
  refine T_loopK (σ := PickSt) [1, 4, 6, 12, 13] (fun g => g.i ≤ l.length ∧ (bestOr (pickV slot (l.take g.i))).en.order.cut.length ≤ 17592186043904) (fun g kv => (14, .int .i64 (g.i : Int)) :: (7, .bool (pickV slot (l.take g.i)).isSome) :: kv) (fun g => cells b6 (votedC (bestOr (pickV slot (l.take g.i))) (g.A, g.c)) 50 :: sl (intR .i64) g.A g.c (bestOr (pickV slot (l.take g.i))).en.order.cut :: cells b4 (entryC (voted0 false).en (none, 0)) 27 :: sl votedR A c l :: L) (fun g => l.length - g.i) (⟨0, none, 0⟩) rfl (⟨Nat.zero_le _, by simp [pickV, bestOr, voted0]⟩) (Gives.cons _ (SlK.lay (slnil (R := intR .i64) (A := none) (c := 0)))) (sub_cons rfl (sub_cons rfl (sub_cons rfl (sub_cons rfl (sub_cons rfl (sub_cons rfl (sub_cons rfl (sub_nil)))))))) ?_
  rintro ⟨i, A2, c2⟩ ⟨hi, hcut⟩
  dsimp only at hi hcut ⊢
  refine T_region ?_
  refine TL_y rfl rfl (Y_lt rfl rfl) ?_
  refine TL_nil ?_
  refine T_seq ?_
  refine T_if rfl (fun h15 => ?_) (fun h15 => ?_)
  · refine T_skip ?_
    refine thenS_normal ?_
    refine T_seq ?_
    refine T_block ?_
    refine T_region ?_
    obtain ⟨u, hu⟩ : ∃ u, l[i]? = some u := ⟨_, List.getElem?_eq_getElem (by omega)⟩
    have hnx := pickV_next (slot := slot) hu
    refine TL_index rfl rfl rfl slk hu ?_
    intro bi16 oi16 li16
    refine TL_ex ?_
    rintro ⟨A3, c3⟩ hok
    simp only [List.cons_append, List.nil_append]
    refine TL_y rfl rfl (Y_load_row_agg rfl rfl) ?_
    refine TL_alloc rfl rfl ?_
    intro b9
    refine TL_store rfl rfl rfl rfl rfl rfl ?_
    refine TL_nil ?_
    refine T_region ?_
    refine TL_y rfl rfl (Y_field_addr rfl) ?_
    refine TL_y rfl rfl (Y_load rfl rfl) ?_
    refine TL_y rfl rfl (Y_move rfl) ?_
    refine TL_y rfl rfl (Y_eq rfl rfl) ?_
    refine TL_y rfl rfl (Y_move rfl) ?_
    refine TL_splitd 22 rfl (fun h22 => ?_) (fun h22 => ?_)
    · refine TL_grun rfl rfl ?_
      refine TL_y rfl rfl (Y_move rfl) ?_
      refine TL_grun rfl rfl ?_
      refine TL_y rfl rfl (Y_not rfl) ?_
      refine TL_grun rfl rfl ?_
      refine TL_y rfl rfl (Y_move rfl) ?_
      refine TL_split 25 rfl (fun h25 => ?_) (fun h25 => ?_)
      · refine TL_gskip rfl rfl rfl rfl ?_
        refine TL_gskip rfl rfl rfl rfl ?_
        refine TL_gskip rfl rfl rfl rfl ?_
        refine TL_gskip rfl rfl rfl rfl ?_
        refine TL_gskip rfl rfl rfl rfl ?_
        refine TL_gskip rfl rfl rfl rfl ?_
        refine TL_grun rfl rfl ?_
        refine TL_y rfl rfl (Y_pick_t rfl rfl) ?_
        refine TL_y rfl rfl (Y_pick_t rfl rfl) ?_
        refine TL_nil ?_
        refine T_cond_true rfl ?_
        refine T_region_last ?_
        refine TL_y rfl rfl (Y_load_agg rfl rfl) ?_
        refine TL_store rfl rfl rfl rfl rfl rfl ?_
        refine TL_y rfl rfl (Y_assign rfl) ?_
        refine TL_nil ?_
        refine inB_normal ?_
        refine thenS_normal ?_
        refine T_region_last ?_
        refine TL_y rfl rfl (Y_add rfl rfl (by omega)) ?_
        refine TL_name 35 (v' := .int .i64 ((i + 1 : Nat) : Int)) rfl (rfl) ?_
        refine TL_y rfl rfl (Y_move rfl) ?_
        refine TL_nil ?_
        refine thenS_normal ?_
        have hp := hnx.trans (better_first h22 (by simpa using h25))
        refine ⟨⟨i + 1, A3, c3⟩, ?_, by simp only; omega, ?_⟩
        · dsimp only; rw [hp]; exact ⟨by omega, hok.2.2.2.2.2.2⟩
        · dsimp only; rw [hp]; simp only [bestOr_some, Option.isSome_some]; exact holds_to (sub_cons rfl (sub_cons rfl (sub_cons rfl (sub_cons rfl (sub_cons rfl (sub_cons rfl (sub_cons rfl (sub_nil)))))))) GivesTo.g
      · refine TL_grun rfl rfl ?_
        refine TL_y rfl rfl (Y_field_addr rfl) ?_
        refine TL_grun rfl rfl ?_
        refine TL_y rfl rfl (Y_load_agg rfl rfl) ?_
        refine TL_grun rfl rfl ?_
        refine TL_y rfl rfl (Y_field_addr rfl) ?_
        refine TL_grun rfl rfl ?_
        refine TL_y rfl rfl (Y_load_agg rfl rfl) ?_
        refine TL_grun rfl rfl ?_
        refine TL_call rfl rfl (compare_spec u.bal (bestOr (pickV slot (l.take i))).bal _) ?_
        rintro _ _ ⟨rfl, rfl⟩
        refine TL_grun rfl rfl ?_
        refine TL_y rfl rfl (Y_gt rfl rfl) ?_
        refine TL_grun rfl rfl ?_
        refine TL_y rfl rfl (Y_pick_f rfl rfl) ?_
        refine TL_y rfl rfl (Y_pick_t rfl rfl) ?_
        refine TL_nil ?_
        refine T_if rfl (fun h33 => ?_) (fun h33 => ?_)
        · refine T_region_last ?_
          refine TL_y rfl rfl (Y_load_agg rfl rfl) ?_
          refine TL_store rfl rfl rfl rfl rfl rfl ?_
          refine TL_y rfl rfl (Y_assign rfl) ?_
          refine TL_nil ?_
          refine inB_normal ?_
          refine thenS_normal ?_
          refine T_region_last ?_
          refine TL_y rfl rfl (Y_add rfl rfl (by omega)) ?_
          refine TL_name 35 (v' := .int .i64 ((i + 1 : Nat) : Int)) rfl (rfl) ?_
          refine TL_y rfl rfl (Y_move rfl) ?_
          refine TL_nil ?_
          refine thenS_normal ?_
          have hp := hnx.trans (better_more h22 (by simpa using h25) h33)
          refine ⟨⟨i + 1, A3, c3⟩, ?_, by simp only; omega, ?_⟩
          · dsimp only; rw [hp]; exact ⟨by omega, hok.2.2.2.2.2.2⟩
          · dsimp only; rw [hp]; simp only [bestOr_some, Option.isSome_some]; exact holds_to (sub_cons rfl (sub_cons rfl (sub_cons rfl (sub_cons rfl (sub_cons rfl (sub_cons rfl (sub_cons rfl (sub_nil)))))))) GivesTo.g
        · refine T_skip ?_
          refine inB_normal ?_
          refine thenS_normal ?_
          refine T_region_last ?_
          refine TL_y rfl rfl (Y_add rfl rfl (by omega)) ?_
          refine TL_name 35 (v' := .int .i64 ((i + 1 : Nat) : Int)) rfl (rfl) ?_
          refine TL_y rfl rfl (Y_move rfl) ?_
          refine TL_nil ?_
          refine thenS_normal ?_
          have hp := hnx.trans (better_less h22 (by simpa using h25) h33)
          refine ⟨⟨i + 1, A2, c2⟩, ?_, by simp only; omega, ?_⟩
          · dsimp only; rw [hp]; exact ⟨by omega, hcut⟩
          · dsimp only; rw [hp]; exact holds_to (sub_cons rfl (sub_cons rfl (sub_cons rfl (sub_cons rfl (sub_cons rfl (sub_cons rfl (sub_cons rfl (sub_nil)))))))) GivesTo.g
    · refine TL_gskip rfl rfl rfl rfl ?_
      refine TL_gskip rfl rfl rfl rfl ?_
      refine TL_gskip rfl rfl rfl rfl ?_
      refine TL_gskip_u rfl rfl rfl ?_
      refine TL_gskip_u rfl rfl rfl ?_
      refine TL_gskip_u rfl rfl rfl ?_
      refine TL_gskip_u rfl rfl rfl ?_
      refine TL_gskip_u rfl rfl rfl ?_
      refine TL_gskip_u rfl rfl rfl ?_
      refine TL_gskip rfl rfl rfl rfl ?_
      refine TL_y rfl rfl (Y_pick_f rfl rfl) ?_
      refine TL_nil ?_
      refine T_cond_false rfl ?_
      refine T_skip ?_
      refine inB_normal ?_
      refine thenS_normal ?_
      refine T_region_last ?_
      refine TL_y rfl rfl (Y_add rfl rfl (by omega)) ?_
      refine TL_name 35 (v' := .int .i64 ((i + 1 : Nat) : Int)) rfl (rfl) ?_
      refine TL_y rfl rfl (Y_move rfl) ?_
      refine TL_nil ?_
      refine thenS_normal ?_
      have hp := hnx.trans (better_no h22)
      refine ⟨⟨i + 1, A2, c2⟩, ?_, by simp only; omega, ?_⟩
      · dsimp only; rw [hp]; exact ⟨by omega, hcut⟩
      · dsimp only; rw [hp]; exact holds_to (sub_cons rfl (sub_cons rfl (sub_cons rfl (sub_cons rfl (sub_cons rfl (sub_cons rfl (sub_cons rfl (sub_nil)))))))) GivesTo.g
  · refine T_exit ?_
    refine thenS_exit ?_
    refine thenS_exit ?_
    refine inB_hit ?_
    refine thenS_normal ?_
    have e : l.take i = l := List.take_of_length_le (by omega)
    rw [e] at hcut ⊢
    refine T_region ?_
    refine TL_y rfl rfl (Y_field_addr rfl) ?_
    refine TL_y rfl rfl (Y_field_addr rfl) ?_
    refine TL_y rfl rfl (Y_field_addr rfl) ?_
    refine TL_y rfl rfl (Y_load rfl rfl) ?_
    refine TL_call rfl rfl (clone_i64_spec slk hcut) ?_
    rintro _ _ ⟨A40, c40, rfl, rfl⟩
    refine TL_freeze_osl ?_
    refine TL_y rfl rfl (Y_field_addr rfl) ?_
    refine TL_y rfl rfl (Y_field_addr rfl) ?_
    refine TL_y rfl rfl (Y_field_addr rfl) ?_
    refine TL_store rfl rfl rfl rfl rfl rfl ?_
    refine TL_nil ?_
    refine T_region ?_
    refine TL_y rfl rfl (Y_field_addr rfl) ?_
    refine TL_y rfl rfl (Y_load_agg rfl rfl) ?_
    refine TL_y rfl rfl (Y_move rfl) ?_
    refine TL_store rfl rfl rfl rfl rfl rfl ?_
    refine TL_y rfl rfl (Y_assign rfl) ?_
    refine TL_nil ?_
    refine T_ret ?_
    exact RetG_2 (.inl rfl) rfl (ResV.agg rfl rfl) (ResV.tmp rfl) GivesTo.g (⟨A40, c40, rfl, rfl⟩)
end Go.SL
