/- Codec: the walks of the number readers. -/
import Derived.Test.YtibejpgjgkeheaaCodC
set_option linter.unusedVariables false
set_option linter.unusedSimpArgs false
namespace Go.SL
open Go Go.Proofs

theorem high_next {bs : List Int} {i : Nat} {u : Int} (h : High (bs.take i)) (hu : bs[i]? = some u) (h1 : 128 ≤ u) (h2 : u ≤ 255) : High (bs.take (i + 1)) := by
  intro d hd
  rw [List.take_add_one, hu] at hd
  rcases List.mem_append.1 hd with hd | hd
  · exact h d hd
  · simp at hd; omega
theorem readUint_spec {L : List HP} {A : Option Addr} {c : Nat} {bs : List Int} (hk : SlK L (intR .u8) A c bs) : Fn Try.prog 166 #[.slice A bs.length c] L (fun v L' => (∃ x n e : Nat, v = .tuple #[.int .u64 (x : Int), .int .i64 (n : Int), .int .i64 (e : Int)] ∧ RdU bs x n e) ∧ L' = L) := by
  refine Fn_enter Try.func166 rfl rfl rfl rfl ?_
  refine hk.lens fun hl => ?_
  refine T_region ?_
  refine TL_y rfl rfl (Y_assign rfl) ?_
  refine TL_y rfl rfl (Y_assign rfl) ?_
  refine TL_y rfl rfl (Y_assign rfl) ?_
  refine TL_nil ?_
  refine T_region ?_
  refine TL_y rfl rfl (Y_assign rfl) ?_
  refine TL_nil ?_
  refine T_seq ?_
  refine T_region ?_
  refine TL_y rfl rfl (Y_move rfl) ?_
  refine TL_y rfl rfl (Y_move rfl) ?_
  refine TL_y rfl rfl (Y_len rfl) ?_
  refine TL_y rfl rfl (Y_min rfl rfl) ?_
  refine TL_name 11 (v' := .int .i64 ((min bs.length 10 : Nat) : Int)) rfl (by congr 1; omega) ?_
  refine TL_y rfl rfl (Y_cut_h rfl rfl (by omega)) ?_
  refine TL_name 12 (v' := .slice A (bs.take 10).length c) rfl (by simp; omega) ?_
  refine TL_y rfl rfl (Y_len rfl) ?_
  refine TL_y rfl rfl (Y_move rfl) ?_
  refine TL_nil ?_
  refine T_block ?_
  refine T_loopK (σ := Nat) [12, 13] (fun i => i ≤ (bs.take 10).length ∧ High (bs.take i)) (fun i kv => (14, .int .i64 (i : Int)) :: (5, .int .u64 ((val (bs.take i) : Nat) : Int)) :: kv) (fun i => L) (fun i => (bs.take 10).length - i) (0) rfl (⟨Nat.zero_le _, by simp [High]⟩) (GivesTo.g) (sub_cons rfl (sub_cons rfl (sub_cons rfl (sub_cons rfl (sub_nil))))) ?_
  intro i hi
  have ht : (bs.take 10).length = min 10 bs.length := List.length_take
  refine T_region ?_
  refine TL_y rfl rfl (Y_lt rfl rfl) ?_
  refine TL_nil ?_
  refine T_seq ?_
  refine T_if rfl (fun h15 => ?_) (fun h15 => ?_)
  · refine T_skip ?_
    refine thenS_normal ?_
    refine T_seq ?_
    refine T_block ?_
    refine T_region ?_
    refine TL_y rfl rfl (Y_move rfl) ?_
    obtain ⟨u, hu⟩ : ∃ u, (bs.take 10)[i]? = some u := ⟨_, List.getElem?_eq_getElem (by omega)⟩
    have hub : bs[i]? = some u := by rw [List.getElem?_take] at hu; split at hu; exact hu; cases hu
    refine TL_index_int rfl rfl rfl (hk.take 10) hu ?_
    intro hi17 bi17 oi17
    have hu8 := u8In hi17
    refine TL_y rfl rfl (Y_load_row rfl rfl) ?_
    refine TL_y rfl rfl (Y_assign rfl) ?_
    refine TL_y rfl rfl (Y_assign rfl) ?_
    refine TL_nil ?_
    refine T_seq ?_
    refine T_region ?_
    refine TL_y rfl rfl (Y_move rfl) ?_
    refine TL_y rfl rfl (Y_eq rfl rfl) ?_
    refine TL_y rfl rfl (Y_move rfl) ?_
    refine TL_splitd 21 rfl (fun h21 => ?_) (fun h21 => ?_)
    · refine TL_grun rfl rfl ?_
      refine TL_y rfl rfl (Y_move rfl) ?_
      refine TL_grun rfl rfl ?_
      refine TL_y rfl rfl (Y_gt rfl rfl) ?_
      refine TL_y rfl rfl (Y_pick_t rfl rfl) ?_
      refine TL_nil ?_
      refine T_if rfl (fun h24 => ?_) (fun h24 => ?_)
      · refine T_exit ?_
        refine thenS_exit ?_
        refine inB_miss rfl ?_
        refine thenS_exit ?_
        refine thenS_exit ?_
        refine inB_hit ?_
        refine thenS_normal ?_
        refine T_region ?_
        refine TL_y rfl rfl (Y_assign rfl) ?_
        refine TL_y rfl rfl (Y_assign rfl) ?_
        refine TL_y rfl rfl (Y_assign rfl) ?_
        refine TL_nil ?_
        refine T_ret ?_
        exact RetG_3 (.inl rfl) rfl (ResV.tmp rfl) (ResV.tmp rfl) (ResV.tmp rfl) GivesTo.g (⟨⟨0, 0, 10, rfl, rdU_big (c := u) (by have e : i = 9 := (by omega); subst e; exact hi.2) (by have e : i = 9 := (by omega); subst e; exact hub) (by omega) (by omega)⟩, rfl⟩)
      · refine T_skip ?_
        refine thenS_normal ?_
        refine T_region ?_
        have h9 : i = 9 → u ≤ 1 := by intro e; omega
        have hp := put_digit hub hu8.1 (by omega) h9
        refine TL_y rfl rfl (Y_move rfl) ?_
        refine TL_y rfl rfl (Y_move rfl) ?_
        refine TL_y rfl rfl (Y_bits (by simp) rfl rfl) ?_
        refine TL_name 27 (v' := .int .u8 ((u.toNat % 128 : Nat) : Int)) rfl (by rw [u8_and hu8]) ?_
        refine TL_y rfl rfl (Y_conv rfl) ?_
        refine TL_name 28 (v' := .int .u64 ((u.toNat % 128 : Nat) : Int)) rfl (by rw [u64_small (by omega)]) ?_
        refine TL_y rfl rfl (Y_move rfl) ?_
        refine TL_y rfl rfl (Y_mul rfl rfl (by omega)) ?_
        refine TL_name 30 (v' := .int .i64 ((7 * i : Nat) : Int)) rfl (by congr 1) ?_
        refine TL_y rfl rfl (Y_shl rfl rfl (by omega)) ?_
        refine TL_y rfl rfl (Y_bits (by simp) rfl rfl) ?_
        refine TL_name 32 (v' := .int .u64 ((val (bs.take (i + 1)) : Nat) : Int)) rfl (by rw [hp.1]) ?_
        refine TL_y rfl rfl (Y_assign rfl) ?_
        refine TL_nil ?_
        refine T_seq ?_
        refine T_region ?_
        refine TL_y rfl rfl (Y_move rfl) ?_
        refine TL_y rfl rfl (Y_ge rfl rfl) ?_
        refine TL_nil ?_
        refine T_if rfl (fun h34 => ?_) (fun h34 => ?_)
        · refine T_exit ?_
          refine thenS_exit ?_
          refine inB_hit ?_
          refine thenS_normal ?_
          refine T_region_last ?_
          refine TL_y rfl rfl (Y_add rfl rfl (by omega)) ?_
          refine TL_name 44 (v' := .int .i64 ((i + 1 : Nat) : Int)) rfl (rfl) ?_
          refine TL_y rfl rfl (Y_move rfl) ?_
          refine TL_nil ?_
          refine thenS_normal ?_
          exact ⟨i + 1, ⟨by omega, high_next hi.2 hub (by omega) (by omega)⟩, by omega, holds_to (sub_cons rfl (sub_cons rfl (sub_cons rfl (sub_cons rfl (sub_nil))))) GivesTo.g⟩
        · refine T_skip ?_
          refine thenS_normal ?_
          refine T_seq ?_
          refine T_region ?_
          refine TL_y rfl rfl (Y_move rfl) ?_
          refine TL_y rfl rfl (Y_eq rfl rfl) ?_
          refine TL_y rfl rfl (Y_move rfl) ?_
          refine TL_splitd 37 rfl (fun h37 => ?_) (fun h37 => ?_)
          · refine TL_grun rfl rfl ?_
            refine TL_y rfl rfl (Y_move rfl) ?_
            refine TL_grun rfl rfl ?_
            refine TL_y rfl rfl (Y_gt rfl rfl) ?_
            refine TL_y rfl rfl (Y_pick_t rfl rfl) ?_
            refine TL_nil ?_
            refine T_if rfl (fun h40 => ?_) (fun h40 => ?_)
            · refine T_exit ?_
              refine thenS_exit ?_
              refine inB_miss rfl ?_
              refine thenS_exit ?_
              refine thenS_exit ?_
              refine inB_hit ?_
              refine thenS_normal ?_
              refine T_region ?_
              refine TL_y rfl rfl (Y_assign rfl) ?_
              refine TL_y rfl rfl (Y_assign rfl) ?_
              refine TL_y rfl rfl (Y_assign rfl) ?_
              refine TL_nil ?_
              refine T_ret ?_
              exact RetG_3 (.inl rfl) rfl (ResV.tmp rfl) (ResV.tmp rfl) (ResV.tmp rfl) GivesTo.g (⟨⟨0, 0, 10, rfl, rdU_zero (i := i) hi.2 (by rw [hub]; congr 1) (by omega)⟩, rfl⟩)
            · refine T_skip ?_
              refine thenS_normal ?_
              refine T_region ?_
              refine TL_y rfl rfl (Y_move rfl) ?_
              refine TL_y rfl rfl (Y_move rfl) ?_
              refine TL_y rfl rfl (Y_add rfl rfl (by omega)) ?_
              refine TL_name 43 (v' := .int .i64 ((i + 1 : Nat) : Int)) rfl (rfl) ?_
              refine TL_y rfl rfl (Y_assign rfl) ?_
              refine TL_y rfl rfl (Y_assign rfl) ?_
              refine TL_y rfl rfl (Y_assign rfl) ?_
              refine TL_nil ?_
              refine T_ret ?_
              refine inB_ret ?_
              refine thenS_ret ?_
              refine thenS_ret ?_
              refine inB_ret ?_
              refine thenS_ret ?_
              exact RetG_3 (.inl rfl) rfl (ResV.tmp rfl) (ResV.tmp rfl) (ResV.tmp rfl) GivesTo.g (⟨⟨val (bs.take (i + 1)), i + 1, 0, rfl, rdU_done hi.2 hub hu8.1 (by omega) (by omega) rfl hp.2⟩, rfl⟩)
          · refine TL_gskip rfl rfl rfl rfl ?_
            refine TL_gskip rfl rfl rfl rfl ?_
            refine TL_y rfl rfl (Y_pick_f rfl rfl) ?_
            refine TL_nil ?_
            refine T_cond_false rfl ?_
            refine T_skip ?_
            refine thenS_normal ?_
            refine T_region ?_
            refine TL_y rfl rfl (Y_move rfl) ?_
            refine TL_y rfl rfl (Y_move rfl) ?_
            refine TL_y rfl rfl (Y_add rfl rfl (by omega)) ?_
            refine TL_name 43 (v' := .int .i64 ((i + 1 : Nat) : Int)) rfl (rfl) ?_
            refine TL_y rfl rfl (Y_assign rfl) ?_
            refine TL_y rfl rfl (Y_assign rfl) ?_
            refine TL_y rfl rfl (Y_assign rfl) ?_
            refine TL_nil ?_
            refine T_ret ?_
            refine inB_ret ?_
            refine thenS_ret ?_
            refine thenS_ret ?_
            refine inB_ret ?_
            refine thenS_ret ?_
            exact RetG_3 (.inl rfl) rfl (ResV.tmp rfl) (ResV.tmp rfl) (ResV.tmp rfl) GivesTo.g (⟨⟨val (bs.take (i + 1)), i + 1, 0, rfl, rdU_done hi.2 hub hu8.1 (by omega) (by omega) rfl hp.2⟩, rfl⟩)
    · refine TL_gskip rfl rfl rfl rfl ?_
      refine TL_gskip rfl rfl rfl rfl ?_
      refine TL_y rfl rfl (Y_pick_f rfl rfl) ?_
      refine TL_nil ?_
      refine T_cond_false rfl ?_
      refine T_skip ?_
      refine thenS_normal ?_
      refine T_region ?_
      have h9 : i = 9 → u ≤ 1 := by intro e; omega
      have hp := put_digit hub hu8.1 (by omega) h9
      refine TL_y rfl rfl (Y_move rfl) ?_
      refine TL_y rfl rfl (Y_move rfl) ?_
      refine TL_y rfl rfl (Y_bits (by simp) rfl rfl) ?_
      refine TL_name 27 (v' := .int .u8 ((u.toNat % 128 : Nat) : Int)) rfl (by rw [u8_and hu8]) ?_
      refine TL_y rfl rfl (Y_conv rfl) ?_
      refine TL_name 28 (v' := .int .u64 ((u.toNat % 128 : Nat) : Int)) rfl (by rw [u64_small (by omega)]) ?_
      refine TL_y rfl rfl (Y_move rfl) ?_
      refine TL_y rfl rfl (Y_mul rfl rfl (by omega)) ?_
      refine TL_name 30 (v' := .int .i64 ((7 * i : Nat) : Int)) rfl (by congr 1) ?_
      refine TL_y rfl rfl (Y_shl rfl rfl (by omega)) ?_
      refine TL_y rfl rfl (Y_bits (by simp) rfl rfl) ?_
      refine TL_name 32 (v' := .int .u64 ((val (bs.take (i + 1)) : Nat) : Int)) rfl (by rw [hp.1]) ?_
      refine TL_y rfl rfl (Y_assign rfl) ?_
      refine TL_nil ?_
      refine T_seq ?_
      refine T_region ?_
      refine TL_y rfl rfl (Y_move rfl) ?_
      refine TL_y rfl rfl (Y_ge rfl rfl) ?_
      refine TL_nil ?_
      refine T_if rfl (fun h34 => ?_) (fun h34 => ?_)
      · refine T_exit ?_
        refine thenS_exit ?_
        refine inB_hit ?_
        refine thenS_normal ?_
        refine T_region_last ?_
        refine TL_y rfl rfl (Y_add rfl rfl (by omega)) ?_
        refine TL_name 44 (v' := .int .i64 ((i + 1 : Nat) : Int)) rfl (rfl) ?_
        refine TL_y rfl rfl (Y_move rfl) ?_
        refine TL_nil ?_
        refine thenS_normal ?_
        exact ⟨i + 1, ⟨by omega, high_next hi.2 hub (by omega) (by omega)⟩, by omega, holds_to (sub_cons rfl (sub_cons rfl (sub_cons rfl (sub_cons rfl (sub_nil))))) GivesTo.g⟩
      · refine T_skip ?_
        refine thenS_normal ?_
        refine T_seq ?_
        refine T_region ?_
        refine TL_y rfl rfl (Y_move rfl) ?_
        refine TL_y rfl rfl (Y_eq rfl rfl) ?_
        refine TL_y rfl rfl (Y_move rfl) ?_
        refine TL_splitd 37 rfl (fun h37 => ?_) (fun h37 => ?_)
        · refine TL_grun rfl rfl ?_
          refine TL_y rfl rfl (Y_move rfl) ?_
          refine TL_grun rfl rfl ?_
          refine TL_y rfl rfl (Y_gt rfl rfl) ?_
          refine TL_y rfl rfl (Y_pick_t rfl rfl) ?_
          refine TL_nil ?_
          refine T_if rfl (fun h40 => ?_) (fun h40 => ?_)
          · refine T_exit ?_
            refine thenS_exit ?_
            refine inB_miss rfl ?_
            refine thenS_exit ?_
            refine thenS_exit ?_
            refine inB_hit ?_
            refine thenS_normal ?_
            refine T_region ?_
            refine TL_y rfl rfl (Y_assign rfl) ?_
            refine TL_y rfl rfl (Y_assign rfl) ?_
            refine TL_y rfl rfl (Y_assign rfl) ?_
            refine TL_nil ?_
            refine T_ret ?_
            exact RetG_3 (.inl rfl) rfl (ResV.tmp rfl) (ResV.tmp rfl) (ResV.tmp rfl) GivesTo.g (⟨⟨0, 0, 10, rfl, rdU_zero (i := i) hi.2 (by rw [hub]; congr 1) (by omega)⟩, rfl⟩)
          · refine T_skip ?_
            refine thenS_normal ?_
            refine T_region ?_
            refine TL_y rfl rfl (Y_move rfl) ?_
            refine TL_y rfl rfl (Y_move rfl) ?_
            refine TL_y rfl rfl (Y_add rfl rfl (by omega)) ?_
            refine TL_name 43 (v' := .int .i64 ((i + 1 : Nat) : Int)) rfl (rfl) ?_
            refine TL_y rfl rfl (Y_assign rfl) ?_
            refine TL_y rfl rfl (Y_assign rfl) ?_
            refine TL_y rfl rfl (Y_assign rfl) ?_
            refine TL_nil ?_
            refine T_ret ?_
            refine inB_ret ?_
            refine thenS_ret ?_
            refine thenS_ret ?_
            refine inB_ret ?_
            refine thenS_ret ?_
            exact RetG_3 (.inl rfl) rfl (ResV.tmp rfl) (ResV.tmp rfl) (ResV.tmp rfl) GivesTo.g (⟨⟨val (bs.take (i + 1)), i + 1, 0, rfl, rdU_done hi.2 hub hu8.1 (by omega) (by omega) rfl hp.2⟩, rfl⟩)
        · refine TL_gskip rfl rfl rfl rfl ?_
          refine TL_gskip rfl rfl rfl rfl ?_
          refine TL_y rfl rfl (Y_pick_f rfl rfl) ?_
          refine TL_nil ?_
          refine T_cond_false rfl ?_
          refine T_skip ?_
          refine thenS_normal ?_
          refine T_region ?_
          refine TL_y rfl rfl (Y_move rfl) ?_
          refine TL_y rfl rfl (Y_move rfl) ?_
          refine TL_y rfl rfl (Y_add rfl rfl (by omega)) ?_
          refine TL_name 43 (v' := .int .i64 ((i + 1 : Nat) : Int)) rfl (rfl) ?_
          refine TL_y rfl rfl (Y_assign rfl) ?_
          refine TL_y rfl rfl (Y_assign rfl) ?_
          refine TL_y rfl rfl (Y_assign rfl) ?_
          refine TL_nil ?_
          refine T_ret ?_
          refine inB_ret ?_
          refine thenS_ret ?_
          refine thenS_ret ?_
          refine inB_ret ?_
          refine thenS_ret ?_
          exact RetG_3 (.inl rfl) rfl (ResV.tmp rfl) (ResV.tmp rfl) (ResV.tmp rfl) GivesTo.g (⟨⟨val (bs.take (i + 1)), i + 1, 0, rfl, rdU_done hi.2 hub hu8.1 (by omega) (by omega) rfl hp.2⟩, rfl⟩)
  · refine T_exit ?_
    refine thenS_exit ?_
    refine thenS_exit ?_
    refine inB_hit ?_
    refine thenS_normal ?_
    refine T_region ?_
    refine TL_y rfl rfl (Y_assign rfl) ?_
    refine TL_y rfl rfl (Y_assign rfl) ?_
    refine TL_y rfl rfl (Y_assign rfl) ?_
    refine TL_nil ?_
    refine T_ret ?_
    exact RetG_3 (.inl rfl) rfl (ResV.tmp rfl) (ResV.tmp rfl) (ResV.tmp rfl) GivesTo.g (⟨⟨0, 0, 10, rfl, rdU_end hi.2 (by omega)⟩, rfl⟩)

theorem wrap_u64 (x : Int) : ∃ y : Nat, IntKind.u64.wrap x = (y : Int) ∧ y < 18446744073709551616 := by
  refine ⟨(IntKind.u64.wrap x).toNat, ?_, ?_⟩ <;> simp [IntKind.wrap, IntKind.bits, IntKind.signed] <;> omega
theorem rdU_same {bs : List Int} {i a2 : Nat} (hil : i < bs.length) (h : grp a2 = bs.take (i + 1)) (hlt : a2 < 18446744073709551616) : RdU bs a2 (i + 1) 0 := .inl ⟨rfl, hlt, h.symm, by rw [h]; simp; omega, by omega⟩
theorem rdU_unlike {bs : List Int} {i a2 : Nat} {u : Int} (hH : High (bs.take i)) (hu : bs[i]? = some u) (h0 : 0 ≤ u) (h1 : u < 128) (hi : i ≤ 9) (hv : (i = 9 → u ≤ 1) → a2 = val (bs.take (i + 1))) (hne : ¬ grp a2 = bs.take (i + 1)) : RdU bs 0 0 10 := by
  by_cases h9 : i = 9 → u ≤ 1
  · refine .inr ⟨rfl, rfl, rfl, fun y hy hp => hne ?_⟩
    obtain ⟨ds, g1, g2, g3, g4, g5⟩ := grp_at hp hH hu h1
    have e : bs.take (i + 1) = grp y := by
      obtain ⟨t, ht⟩ := hp
      rw [← ht, List.take_append_of_le_length (by rw [g1]; simp; omega), List.take_of_length_le (by rw [g1]; simp; omega)]
    have : a2 = y := by rw [hv h9, e, val_grp]
    rw [this, e]
  · have e : i = 9 := by omega
    subst e
    exact rdU_big hH hu (by omega) (by omega)
end Go.SL
