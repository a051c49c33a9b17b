/- Learner: the walks of Choose, Extras, Missing, From, Fork. -/
import Derived.Test.YtfmkfpgplpfkhaaLrB
import Derived.Shelf.SlMaps.Clone
import Derived.Shelf.Lay
set_option linter.unusedVariables false
set_option linter.unusedSimpArgs false
namespace Go.Proofs
open Go.Shelf
shelf_lay_g SlLaysW.n5 Slmc 5 at Try 57 as Try.laysCloneE
end Go.Proofs
namespace Go.SL
open Go Go.Proofs
theorem cloneE_spec {κ α : Type} [DecidableEq κ] {K : KeyT κ} {R : Rep α} {ag : Bool} {b : Nat} {m : List (κ × α)} {L : List HP} : Fn Try.prog 57 #[.map (some b)] (omap K R ag b m :: L) (fun v L' => ∃ b2, v = .map (some b2) ∧ L' = omap K R ag b2 m :: omap K R ag b m :: L) := fun o w hs => by
  obtain ⟨es, clock, hb, hs2⟩ := omap_twin hs
  refine (AnyW.maps_Clone Try.laysCloneE b es clock w hb).mono ?_
  rintro e w' ⟨rfl, rfl⟩
  exact ⟨_, _, rfl, ⟨_, rfl, rfl⟩, hs2⟩
theorem lrFork_spec {L : List HP} {b : Nat} {l : List SlotD} : Fn Try.prog 35 #[.pointer (some ⟨b, 0, none⟩)] (lr b l :: L) (fun v L' => ∃ b2, v = .pointer (some ⟨b2, 0, none⟩) ∧ L' = lr b2 l :: lr b l :: L) := by
  refine Fn_enter Try.func35 rfl rfl rfl rfl ?_
  refine T_region ?_
  refine TL_y rfl rfl (Y_assign rfl) ?_
  refine TL_nil ?_
  refine T_seq ?_
  refine T_region ?_
  refine TL_y rfl rfl (Y_move rfl) ?_
  refine TL_pullk b ?_
  refine TL_call rfl rfl (lrMade_spec) ?_
  rintro _ _ ⟨rfl, rfl⟩
  refine TL_name 4 (v' := .bool true) rfl (rfl) ?_
  refine TL_y rfl rfl (Y_not_t rfl) ?_
  refine TL_nil ?_
  refine T_cond_false rfl ?_
  refine T_skip ?_
  refine thenS_normal ?_
  refine T_pullk b ?_
  refine T_lr fun bt hi => ?_
  refine T_region_draw _ [0, 1, 3, 7, 15, 0, 32, 96, 224, 511, 1023, 2047] [] [(0, true), (1, true), (2, true), (3, true), (5, true), (6, true), (7, true), (8, true), (4, false), (9, true), (10, false), (11, true)] (by kernel_rfl) (by decide +kernel) (Gives.refl _) ?_
  refine TF_y rfl rfl (Y_move rfl) ?_
  refine TF_y rfl rfl (Y_nil_check rfl) ?_
  refine TF_y rfl rfl (Y_field_addr rfl) ?_
  refine TF_y rfl rfl (Y_load rfl rfl) ?_
  refine TF_y rfl rfl (Y_move rfl) ?_
  refine TF_y rfl rfl (Y_nil_check rfl) ?_
  refine TF_y rfl rfl (Y_field_addr rfl) ?_
  refine TF_y rfl rfl (Y_load rfl rfl) ?_
  refine TF_anchor rfl ?_
  refine TL_pullm bt ?_
  refine TL_call rfl rfl (cloneE_spec) ?_
  rintro _ _ ⟨bt2, rfl, rfl⟩
  refine TF_end GivesTo.g ?_
  refine TF_y rfl rfl (Y_build rfl rfl) ?_
  refine TF_anchor rfl ?_
  refine TL_box rfl rfl rfl ?_
  intro b16
  refine TF_end GivesTo.g ?_
  refine TF_y rfl rfl (Y_assign rfl) ?_
  refine TF_nil ?_
  refine T_ret ?_
  refine RetQ.gives (lr_close (bt := bt2) b16 l hi) ?_
  refine RetQ.gives (lr_close (bt := bt) b l hi) ?_
  exact RetG_1 (.inl rfl) rfl (ResV.tmp rfl) GivesTo.g (⟨b16, rfl, rfl⟩)
theorem LI.keyIn {l : List SlotD} (h : LI l) : ∀ k ∈ keysN l, 0 ≤ k ∧ k ≤ 2147483647 := fun k hk => by
  obtain ⟨p, hp, rfl⟩ := List.mem_map.1 hk
  exact h.keys p hp
theorem LI.extra_len {l : List SlotD} (h : LI l) : (extraN l).length ≤ 65536 := by
  unfold extraN
  have := h.len
  rw [List.length_map, List.length_drop]; omega
theorem LI.extraIn {l : List SlotD} (h : LI l) : ∀ k ∈ extraN l, 0 ≤ k ∧ k ≤ 2147483647 := fun k hk => by
  obtain ⟨p, hp, rfl⟩ := List.mem_map.1 hk
  exact h.keys p (List.mem_of_mem_drop hp)
structure OutSt where
  i : Nat
  A : Option Addr
  c : Nat
theorem lrExtras_spec {L : List HP} {b : Nat} {l : List SlotD} : Fn Try.prog 30 #[.pointer (some ⟨b, 0, none⟩)] (lr b l :: L) (fun v L' => ∃ A c, v = .slice A (extraN l).length c ∧ L' = osl (intR .i64) 3 A c (extraN l) :: lr b l :: L) := by
  refine Fn_enter Try.func30 rfl rfl rfl rfl ?_
  refine T_lrI fun hi => ?_
  have hlen := hi.len
  refine T_region ?_
  refine TL_y rfl rfl (Y_assign rfl) ?_
  refine TL_nil ?_
  refine T_region ?_
  refine TL_y rfl rfl (Y_assign rfl) ?_
  refine TL_nil ?_
  refine T_seq ?_
  refine T_region ?_
  refine TL_y rfl rfl (Y_move rfl) ?_
  refine TL_pullk b ?_
  refine TL_call rfl rfl (lrSlots_spec) ?_
  rintro _ _ ⟨A7, c7, rfl, rfl⟩
  refine TL_freeze_osl ?_
  refine TL_y rfl rfl (Y_len rfl) ?_
  refine TL_name 8 (v' := .int .i64 (l.length : Int)) rfl (by simp) ?_
  refine TL_y rfl rfl (Y_move rfl) ?_
  refine TL_nil ?_
  refine T_block ?_
  refine T_loopK (σ := OutSt) [0, 7, 8] (fun g => g.i ≤ l.length) (fun g kv => (9, .int .i64 (g.i : Int)) :: (3, .slice g.A ((((keysN l).take g.i).filter fun k => decide (((pfx l : Nat) : Int) ≤ k))).length g.c) :: kv) (fun g => osl (intR .i64) 3 g.A g.c (((keysN l).take g.i).filter fun k => decide (((pfx l : Nat) : Int) ≤ k)) :: sl (intR .i64) A7 c7 (keysN l) :: lr b l :: L) (fun g => l.length - g.i) (⟨0, none, 0⟩) rfl (Nat.zero_le _) (osl_nil (intR .i64) 3 none _) (sub_cons rfl (sub_cons rfl (sub_cons rfl (sub_cons rfl (sub_cons rfl (sub_nil)))))) ?_
  rintro ⟨i, A, c⟩ hil
  dsimp only at hil ⊢
  refine T_region ?_
  refine TL_y rfl rfl (Y_lt rfl rfl) ?_
  refine TL_nil ?_
  refine T_seq ?_
  refine T_if rfl (fun h10 => ?_) (fun h10 => ?_)
  · refine T_skip ?_
    refine thenS_normal ?_
    refine T_seq ?_
    refine T_block ?_
    refine T_region ?_
    obtain ⟨p, hp⟩ : ∃ p, l[i]? = some p := ⟨_, List.getElem?_eq_getElem (by omega)⟩
    have hu : (keysN l)[i]? = some p.1 := by simp [hp]
    have htk : (keysN l).take (i + 1) = (keysN l).take i ++ [p.1] := take_at hu
    refine TL_index_int rfl rfl rfl slk hu ?_
    intro hi11 bi11 oi11
    refine TL_y rfl rfl (Y_load_row rfl rfl) ?_
    refine TL_y rfl rfl (Y_assign rfl) ?_
    refine TL_nil ?_
    refine T_pullk b ?_
    refine T_lr fun bt _ => ?_
    refine T_region ?_
    refine TL_y rfl rfl (Y_move rfl) ?_
    refine TL_y rfl rfl (Y_move rfl) ?_
    refine TL_y rfl rfl (Y_nil_check rfl) ?_
    refine TL_y rfl rfl (Y_field_addr rfl) ?_
    refine TL_y rfl rfl (Y_load rfl rfl) ?_
    refine TL_y rfl rfl (Y_ge rfl rfl) ?_
    refine TL_nil ?_
    refine T_if rfl (fun h18 => ?_) (fun h18 => ?_)
    · have hfl : (((keysN l).take i).filter fun k => decide (((pfx l : Nat) : Int) ≤ k)).length ≤ 65536 := Nat.le_trans (List.length_filter_le _ _) (by rw [List.length_take]; omega)
      refine T_region_last ?_
      refine TL_y rfl rfl (Y_move rfl) ?_
      refine TL_y rfl rfl (Y_move rfl) ?_
      refine TL_build_slice rfl rfl rfl rfl rfl rfl ?_
      intro b21
      refine TL_osl (k := 1) (intR .i64) [p.1] (Knows.const fun M => ⟨[.int .i64 p.1], [], ⟨rfl, i64In_mk (by have := hi.keys p (List.mem_of_getElem? hp); omega)⟩, rfl, rfl⟩) rfl (by decide) ?_
      refine TL_freeze_osl ?_
      refine TL_name 21 (v' := .slice (some ⟨b21, 0, none⟩) [p.1].length 1) rfl rfl ?_
      refine TL_append rfl rfl rfl rfl rfl slk (by simp only [List.length_cons, List.length_nil]; omega) ?_
      intro A22 c22
      refine TL_y rfl rfl (Y_assign rfl) ?_
      refine TL_nil ?_
      refine inB_normal ?_
      refine thenS_normal ?_
      refine T_gives (lr_close (bt := bt) b l hi) ?_
      have hf : (((keysN l).take (i + 1)).filter fun k => decide (((pfx l : Nat) : Int) ≤ k)) = (((keysN l).take i).filter fun k => decide (((pfx l : Nat) : Int) ≤ k)) ++ [p.1] := by rw [htk, List.filter_append]; simp [h18]
      rw [← hf]
      refine T_region_last ?_
      refine TL_y rfl rfl (Y_add rfl rfl (by omega)) ?_
      refine TL_name 23 (v' := .int .i64 ((i + 1 : Nat) : Int)) rfl (rfl) ?_
      refine TL_y rfl rfl (Y_move rfl) ?_
      refine TL_nil ?_
      refine thenS_normal ?_
      exact ⟨⟨i + 1, A22, c22⟩, (by simp only; omega), by simp only; omega, holds_to (sub_cons rfl (sub_cons rfl (sub_cons rfl (sub_cons rfl (sub_cons rfl (sub_nil)))))) GivesTo.g⟩
    · refine T_skip ?_
      refine inB_normal ?_
      refine thenS_normal ?_
      refine T_gives (lr_close (bt := bt) b l hi) ?_
      have hf : (((keysN l).take (i + 1)).filter fun k => decide (((pfx l : Nat) : Int) ≤ k)) = (((keysN l).take i).filter fun k => decide (((pfx l : Nat) : Int) ≤ k)) := by rw [htk, List.filter_append]; simp [h18]
      rw [← hf]
      refine T_region_last ?_
      refine TL_y rfl rfl (Y_add rfl rfl (by omega)) ?_
      refine TL_name 23 (v' := .int .i64 ((i + 1 : Nat) : Int)) rfl (rfl) ?_
      refine TL_y rfl rfl (Y_move rfl) ?_
      refine TL_nil ?_
      refine thenS_normal ?_
      exact ⟨⟨i + 1, A, c⟩, (by simp only; omega), by simp only; omega, holds_to (sub_cons rfl (sub_cons rfl (sub_cons rfl (sub_cons rfl (sub_cons rfl (sub_nil)))))) GivesTo.g⟩
  · refine T_exit ?_
    refine thenS_exit ?_
    refine thenS_exit ?_
    refine inB_hit ?_
    refine thenS_normal ?_
    rw [show (keysN l).take i = keysN l from List.take_of_length_le (by simp; omega), hi.extra]
    refine T_region ?_
    refine TL_y rfl rfl (Y_move rfl) ?_
    refine TL_y rfl rfl (Y_assign rfl) ?_
    refine TL_nil ?_
    refine T_ret ?_
    exact RetG_1 (.inl rfl) rfl (ResV.tmp rfl) GivesTo.g (⟨A, c, rfl, rfl⟩)
structure MisSt where
  i : Nat
  A : Option Addr
  c : Nat
  j : Nat
theorem extra_at {l : List SlotD} {i : Nat} {k : Int} (hu : (extraN l)[i]? = some k) : (extraN l).take (i + 1) = (extraN l).take i ++ [k] := take_at hu
abbrev misO (l : List SlotD) (most : Int) (i : Nat) : List Int := missF (min most 4096) ((extraN l).take i) ((pfx l : Nat) : Int) []
abbrev misN (l : List SlotD) (i : Nat) : Int := nextF ((extraN l).take i) ((pfx l : Nat) : Int)
theorem misO_len (l : List SlotD) (most : Int) (i : Nat) : (misO l most i).length ≤ 4096 := missF_len (by omega) (by simp)
theorem misN_in {l : List SlotD} (h : LI l) (i : Nat) : 0 ≤ misN l i ∧ misN l i ≤ 2147483648 := by
  have hp := h.spec.1
  have hl := h.len
  unfold misN nextF
  split
  · rename_i x hx
    have := h.extraIn x (List.mem_of_mem_take (List.mem_of_getLast? hx))
    omega
  · omega
theorem lrMissing_spec {L : List HP} {b : Nat} {l : List SlotD} (most : Int) : Fn Try.prog 31 #[.pointer (some ⟨b, 0, none⟩), .int .i64 most] (lr b l :: L) (fun v L' => ∃ A c, v = .slice A (missingS l most).length c ∧ L' = osl (intR .i64) 3 A c (missingS l most) :: lr b l :: L) := by
  refine Fn_enter Try.func31 rfl rfl rfl rfl ?_
  refine T_lrI fun hi => ?_
  have hlen := hi.len
  have hxl := hi.extra_len
  refine T_region ?_
  refine TL_y rfl rfl (Y_assign rfl) ?_
  refine TL_nil ?_
  refine T_region ?_
  refine TL_y rfl rfl (Y_assign rfl) ?_
  refine TL_nil ?_
  refine T_region ?_
  refine TL_y rfl rfl (Y_move rfl) ?_
  refine TL_pullk b ?_
  refine TL_call rfl rfl (lrPrefix_spec) ?_
  rintro _ _ ⟨rfl, rfl⟩
  refine TL_y rfl rfl (Y_assign rfl) ?_
  refine TL_nil ?_
  refine T_seq ?_
  refine T_region ?_
  refine TL_y rfl rfl (Y_move rfl) ?_
  refine TL_pullk b ?_
  refine TL_call rfl rfl (lrExtras_spec) ?_
  rintro _ _ ⟨A12, c12, rfl, rfl⟩
  refine TL_freeze_osl ?_
  refine TL_y rfl rfl (Y_len rfl) ?_
  refine TL_y rfl rfl (Y_move rfl) ?_
  refine TL_nil ?_
  refine T_block ?_
  refine T_loopK (σ := OutSt) [1, 12, 13] (fun g => g.i ≤ (extraN l).length) (fun g kv => (14, .int .i64 (g.i : Int)) :: (6, .int .i64 (misN l g.i)) :: (5, .slice g.A (misO l most g.i).length g.c) :: kv) (fun g => osl (intR .i64) 3 g.A g.c (misO l most g.i) :: sl (intR .i64) A12 c12 (extraN l) :: lr b l :: L) (fun g => (extraN l).length - g.i) (⟨0, none, 0⟩) rfl (Nat.zero_le _) (osl_nil (intR .i64) 3 none _) (sub_cons rfl (sub_cons rfl (sub_cons rfl (sub_cons rfl (sub_cons rfl (sub_cons rfl (sub_nil))))))) ?_
  rintro ⟨i, A, c⟩ hil
  dsimp only at hil ⊢
  refine T_region ?_
  refine TL_y rfl rfl (Y_lt rfl rfl) ?_
  refine TL_nil ?_
  refine T_seq ?_
  refine T_if rfl (fun h15 => ?_) (fun h15 => ?_)
  · refine T_skip ?_
    refine thenS_normal ?_
    refine T_seq ?_
    refine T_block ?_
    refine T_region ?_
    obtain ⟨k, hu⟩ : ∃ k, (extraN l)[i]? = some k := ⟨_, List.getElem?_eq_getElem (by omega)⟩
    have hkin := hi.extraIn k (List.mem_of_getElem? hu)
    refine TL_index_int rfl rfl rfl slk hu ?_
    intro hi16 bi16 oi16
    refine TL_y rfl rfl (Y_load_row rfl rfl) ?_
    refine TL_y rfl rfl (Y_assign rfl) ?_
    rw [show misO l most i = misO l most i ++ ints (misN l i) 0 from (List.append_nil _).symm]
    refine TL_nil ?_
    refine T_seq ?_
    refine T_block ?_
    refine T_loopK (σ := MisSt) [1, 8, 12, 13, 14] (fun g => g.j ≤ gapN (min most 4096) (misN l i) k (misO l most i).length) (fun g kv => (6, .int .i64 (misN l i + (g.j : Int))) :: (5, .slice g.A (misO l most i ++ ints (misN l i) g.j).length g.c) :: kv) (fun g => osl (intR .i64) 3 g.A g.c (misO l most i ++ ints (misN l i) g.j) :: sl (intR .i64) A12 c12 (extraN l) :: lr b l :: L) (fun g => 4096 - g.j) (⟨0, A, c, 0⟩) rfl (Nat.zero_le _) (GivesTo.g) (sub_cons (by show some (Value.int .i64 (misN l i)) = some (Value.int .i64 (misN l i + ((0 : Nat) : Int))); simp) (sub_cons rfl (sub_cons rfl (sub_cons rfl (sub_cons rfl (sub_cons rfl (sub_cons rfl (sub_nil)))))))) ?_
    rintro ⟨_, A1, c1, j⟩ hj
    dsimp only at hj ⊢
    have hmo := misO_len l most i
    have hmn := misN_in hi i
    have hg0 := hj
    unfold gapN at hg0
    refine T_seq ?_
    refine T_region ?_
    refine TL_both 10 27 (j < gapN (min most 4096) (misN l i) k (misO l most i).length) ?_ ?_
    · refine TL_y rfl rfl (Y_move rfl) ?_
      refine TL_y rfl rfl (Y_move rfl) ?_
      refine TL_y rfl rfl (Y_lt rfl rfl) ?_
      refine TL_y rfl rfl (Y_move rfl) ?_
      refine TL_splitd 21 rfl (fun h21 => ?_) (fun h21 => ?_)
      · refine TL_grun rfl rfl ?_
        refine TL_y rfl rfl (Y_move rfl) ?_
        refine TL_grun rfl rfl ?_
        refine TL_y rfl rfl (Y_len rfl) ?_
        refine TL_grun rfl rfl ?_
        refine TL_y rfl rfl (Y_move rfl) ?_
        refine TL_grun rfl rfl ?_
        refine TL_y rfl rfl (Y_min rfl rfl) ?_
        refine TL_grun rfl rfl ?_
        refine TL_y rfl rfl (Y_lt rfl rfl) ?_
        refine TL_y rfl rfl (Y_pick_t rfl rfl) ?_
        refine TL_chain_end rfl ?_ (by repeat (first | exact sub_refl | refine sub_ext rfl ?_)) GivesTo.g
        exact congrArg Value.bool (decide_eq_decide.2 (by unfold gapN; (try simp only [List.length_append, ints_len] at *); omega))
      · refine TL_gskip rfl rfl rfl rfl ?_
        refine TL_gskip rfl rfl rfl rfl ?_
        refine TL_gskip rfl rfl rfl rfl ?_
        refine TL_gskip rfl rfl rfl rfl ?_
        refine TL_gskip rfl rfl rfl rfl ?_
        refine TL_y rfl rfl (Y_pick_f rfl rfl) ?_
        refine TL_chain_end rfl ?_ (by repeat (first | exact sub_refl | refine sub_ext rfl ?_)) GivesTo.g
        exact congrArg Value.bool (decide_eq_false (by unfold gapN; (try simp only [List.length_append, ints_len] at *); omega)).symm
    refine TL_nil ?_
    refine T_if rfl (fun h27 => ?_) (fun h27 => ?_)
    · refine T_skip ?_
      refine thenS_normal ?_
      refine T_seq ?_
      refine T_block ?_
      refine T_region_last ?_
      refine TL_y rfl rfl (Y_move rfl) ?_
      refine TL_y rfl rfl (Y_move rfl) ?_
      refine TL_build_slice rfl rfl rfl rfl rfl rfl ?_
      intro b32
      refine TL_osl (k := 1) (intR .i64) [misN l i + (j : Int)] (Knows.const fun M => ⟨[.int .i64 (misN l i + (j : Int))], [], ⟨rfl, i64In_mk (by omega)⟩, rfl, rfl⟩) rfl (by decide) ?_
      refine TL_freeze_osl ?_
      refine TL_name 32 (v' := .slice (some ⟨b32, 0, none⟩) [misN l i + (j : Int)].length 1) rfl rfl ?_
      refine TL_append rfl rfl rfl rfl rfl slk (by simp only [List.length_cons, List.length_nil, List.length_append, ints_len]; omega) ?_
      intro A33 c33
      rw [List.append_assoc, ← ints_succ]
      refine TL_y rfl rfl (Y_assign rfl) ?_
      refine TL_nil ?_
      refine inB_normal ?_
      refine thenS_normal ?_
      refine T_region_last ?_
      refine TL_y rfl rfl (Y_move rfl) ?_
      refine TL_y rfl rfl (Y_add rfl rfl (by omega)) ?_
      refine TL_name 29 (v' := .int .i64 (misN l i + ((j + 1 : Nat) : Int))) rfl (by congr 1; omega) ?_
      refine TL_y rfl rfl (Y_assign rfl) ?_
      refine TL_nil ?_
      refine thenS_normal ?_
      exact ⟨⟨0, A33, c33, j + 1⟩, (by simp only; omega), by simp only; unfold gapN at *; omega, holds_to (sub_cons rfl (sub_cons rfl (sub_cons rfl (sub_cons rfl (sub_cons rfl (sub_cons rfl (sub_cons rfl (sub_nil)))))))) GivesTo.g⟩
    · refine T_exit ?_
      refine thenS_exit ?_
      refine thenS_exit ?_
      refine inB_hit ?_
      refine thenS_normal ?_
      have hj2 : j = gapN (min most 4096) (misN l i) k (misO l most i).length := by omega
      have e1 : misO l most i ++ ints (misN l i) j = misO l most (i + 1) := by rw [hj2]; unfold misO; rw [extra_at hu, missF_snoc']
      have e2 : misN l (i + 1) = k + 1 := by unfold misN; rw [extra_at hu, nextF_snoc]
      rw [e1]
      refine T_region_last ?_
      refine TL_y rfl rfl (Y_move rfl) ?_
      refine TL_y rfl rfl (Y_add rfl rfl (by omega)) ?_
      refine TL_name 35 (v' := .int .i64 (misN l (i + 1))) rfl (by rw [e2]) ?_
      refine TL_y rfl rfl (Y_assign rfl) ?_
      refine TL_nil ?_
      refine inB_normal ?_
      refine thenS_normal ?_
      refine T_region_last ?_
      refine TL_y rfl rfl (Y_add rfl rfl (by omega)) ?_
      refine TL_name 36 (v' := .int .i64 ((i + 1 : Nat) : Int)) rfl (rfl) ?_
      refine TL_y rfl rfl (Y_move rfl) ?_
      refine TL_nil ?_
      refine thenS_normal ?_
      exact ⟨⟨i + 1, A1, c1⟩, (by simp only; omega), by simp only; omega, holds_to (sub_cons rfl (sub_cons rfl (sub_cons rfl (sub_cons rfl (sub_cons rfl (sub_cons rfl (sub_nil))))))) GivesTo.g⟩
  · refine T_exit ?_
    refine thenS_exit ?_
    refine thenS_exit ?_
    refine inB_hit ?_
    refine thenS_normal ?_
    have e3 : misO l most i = missingS l most := by unfold misO missingS; rw [show (extraN l).take i = extraN l from List.take_of_length_le (by omega)]
    rw [e3]
    refine T_region ?_
    refine TL_y rfl rfl (Y_move rfl) ?_
    refine TL_y rfl rfl (Y_assign rfl) ?_
    refine TL_nil ?_
    refine T_ret ?_
    exact RetG_1 (.inl rfl) rfl (ResV.tmp rfl) GivesTo.g (⟨A, c, rfl, rfl⟩)
end Go.SL
