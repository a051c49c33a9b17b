/- Codec: the walks of the writer's functions. -/
import Derived.Test.YtibejpgjgkeheaaWrA
set_option linter.unusedVariables false
set_option linter.unusedSimpArgs false
namespace Go.SL
open Go Go.Proofs
theorem u64_of {n : Int} (h0 : 0 ≤ n) (h1 : n < 18446744073709551616) : IntKind.u64.wrap n = ((n.toNat : Nat) : Int) := by
  rw [show n = ((n.toNat : Nat) : Int) by omega, Int.toNat_natCast, u64_small (by omega)]
theorem wnumber_spec {L : List HP} {b : Nat} {s : WS} (most n : Int) (hn : intIn .i64 n) (hm : most ≤ 4611686018427387904) (hb : s.1.length + 10 ≤ 140737488355328) : Fn Try.prog 147 #[.pointer (some ⟨b, 0, none⟩), .int .i64 n, .int .i64 most] (wr b s :: L) (fun v L' => v = .tuple #[] ∧ L' = wr b (wNum most n s) :: L) := by
  have hn := i64In hn
  refine Fn_enter Try.func147 rfl rfl rfl rfl ?_
  refine T_wr fun A c => ?_
  refine T_seq ?_
  refine T_region ?_
  refine TL_both 7 12 (n < 0 ∨ n > most) ?_ ?_
  · refine TL_y rfl rfl (Y_move rfl) ?_
    refine TL_y rfl rfl (Y_lt rfl rfl) ?_
    refine TL_y rfl rfl (Y_move rfl) ?_
    refine TL_splitd 8 rfl (fun h8 => ?_) (fun h8 => ?_)
    · refine TL_gskip rfl rfl rfl rfl ?_
      refine TL_gskip rfl rfl rfl rfl ?_
      refine TL_gskip rfl rfl rfl rfl ?_
      refine TL_y rfl rfl (Y_pick_t rfl rfl) ?_
      refine TL_chain_end rfl ?_ (by repeat (first | exact sub_refl | refine sub_ext rfl ?_)) GivesTo.g
      exact congrArg Value.bool (decide_eq_true (by omega)).symm
    · refine TL_grun rfl rfl ?_
      refine TL_y rfl rfl (Y_move rfl) ?_
      refine TL_grun rfl rfl ?_
      refine TL_y rfl rfl (Y_move rfl) ?_
      refine TL_grun rfl rfl ?_
      refine TL_y rfl rfl (Y_gt rfl rfl) ?_
      refine TL_y rfl rfl (Y_pick_f rfl rfl) ?_
      refine TL_chain_end rfl ?_ (by repeat (first | exact sub_refl | refine sub_ext rfl ?_)) GivesTo.g
      exact congrArg Value.bool (decide_eq_decide.2 (by omega))
  refine TL_nil ?_
  refine T_if rfl (fun h12 => ?_) (fun h12 => ?_)
  · have hw : wNum most n s = (s.1, true) := by rw [wNum, if_pos h12]
    refine T_region ?_
    refine TL_y rfl rfl (Y_move rfl) ?_
    refine TL_y rfl rfl (Y_nil_check rfl) ?_
    refine TL_y rfl rfl (Y_field_addr rfl) ?_
    refine TL_store rfl rfl rfl rfl rfl rfl ?_
    refine TL_nil ?_
    refine T_ret ?_
    refine thenS_ret ?_
    rw [hw]
    refine RetQ.gives (wr_close (s := (s.1, true))) ?_
    exact RetG_0 (.inl rfl) rfl GivesTo.g (⟨rfl, rfl⟩)
  · have hw : wNum most n s = (s.1 ++ grp n.toNat, s.2) := by rw [wNum, if_neg h12]
    have hg := grp_ten (x := n.toNat) (by omega)
    refine T_skip ?_
    refine thenS_normal ?_
    refine T_region_draw_last (cells b [.slice A s.1.length c, .bool s.2] 205 :: []) [0, 0, 2, 6, 14, 0, 32, 96, 254, 511, 1023, 2047] [11] [(0, true), (1, true), (2, true), (3, true), (4, true), (5, true), (6, true), (7, false), (8, false), (9, true), (10, true), (11, false)] (by kernel_rfl) (by decide +kernel) GivesTo.g ?_
    refine TF_y rfl rfl (Y_move rfl) ?_
    refine TF_y rfl rfl (Y_move rfl) ?_
    refine TF_y rfl rfl (Y_nil_check rfl) ?_
    refine TF_y rfl rfl (Y_field_addr rfl) ?_
    refine TF_y rfl rfl (Y_load rfl rfl) ?_
    refine TF_y rfl rfl (Y_move rfl) ?_
    refine TF_y rfl rfl (Y_conv rfl) ?_
    refine TF_name 22 (v' := .int .u64 ((n.toNat : Nat) : Int)) rfl (by rw [u64_of (by omega) (by omega)]) ?_
    refine TF_anchor rfl ?_
    refine TL_call rfl rfl (group_spec n.toNat (by omega) _) ?_
    rintro _ _ ⟨A23, c23, rfl, rfl⟩
    refine TL_freeze_osl ?_
    refine TF_end GivesTo.g ?_
    refine TF_anchor rfl ?_
    refine TL_append rfl rfl rfl rfl rfl slk (by (try simp only [List.length_append, List.length_cons, List.length_nil]); omega) ?_
    intro A24 c24
    refine TF_end GivesTo.g ?_
    refine TF_y rfl rfl (Y_nil_check rfl) ?_
    refine TF_y rfl rfl (Y_field_addr rfl) ?_
    refine TF_anchor rfl ?_
    refine TL_store rfl rfl rfl rfl rfl rfl ?_
    refine TF_end_tail rfl ?_
    refine TF_nil ?_
    rw [hw]
    refine RetQ.gives (wr_close (s := (s.1 ++ grp n.toNat, s.2))) ?_
    exact RetG_0 (.inr rfl) rfl GivesTo.g (⟨rfl, rfl⟩)
theorem wname_spec {L : List HP} {b : Nat} {s : WS} (t : ByteArray) (ht : t.size ≤ maxEl) (hb : s.1.length + 10 + t.size ≤ 140737488355328) : Fn Try.prog 175 #[.pointer (some ⟨b, 0, none⟩), .string t] (wr b s :: L) (fun v L' => v = .tuple #[] ∧ L' = wr b (wName t s) :: L) := by
  have hl := wNum_len 65536 (t.size : Int) (s.1, s.2 || !decide (isName t)) (by decide)
  simp only at hl
  refine Fn_enter Try.func175 rfl rfl rfl rfl ?_
  refine T_wr fun A c => ?_
  refine T_region ?_
  refine TL_y rfl rfl (Y_move rfl) ?_
  refine TL_y rfl rfl (Y_move rfl) ?_
  refine TL_y rfl rfl (Y_nil_check rfl) ?_
  refine TL_y rfl rfl (Y_field_addr rfl) ?_
  refine TL_y rfl rfl (Y_load rfl rfl) ?_
  refine TL_both 5 13 (s.2 = true ∨ ¬ isName t) ?_ ?_
  · refine TL_y rfl rfl (Y_move rfl) ?_
    refine TL_split 9 rfl (fun h9 => ?_) (fun h9 => ?_)
    · refine TL_gskip rfl rfl rfl rfl ?_
      refine TL_gskip rfl rfl rfl rfl ?_
      refine TL_gskip rfl rfl rfl rfl ?_
      refine TL_y rfl rfl (Y_pick_t rfl rfl) ?_
      refine TL_chain_end rfl ?_ (by repeat (first | exact sub_refl | refine sub_ext rfl ?_)) GivesTo.g
      exact congrArg Value.bool (decide_eq_true (by simp [*])).symm
    · refine TL_grun rfl rfl ?_
      refine TL_y rfl rfl (Y_move rfl) ?_
      refine TL_grun rfl rfl ?_
      refine TL_call rfl rfl (name_spec _ t ht) ?_
      rintro _ _ ⟨rfl, rfl⟩
      refine TL_grun rfl rfl ?_
      refine TL_y rfl rfl (Y_not_d rfl) ?_
      refine TL_y rfl rfl (Y_pick_f rfl rfl) ?_
      refine TL_chain_end rfl ?_ (by repeat (first | exact sub_refl | refine sub_ext rfl ?_)) GivesTo.g
      exact congrArg Value.bool (decide_eq_decide.2 (by simp [*]))
  refine TL_name 13 (v' := .bool (s.2 || !decide (isName t))) rfl (by cases s.2 <;> simp) ?_
  refine TL_y rfl rfl (Y_nil_check rfl) ?_
  refine TL_y rfl rfl (Y_field_addr rfl) ?_
  refine TL_store rfl rfl rfl rfl rfl rfl ?_
  refine TL_gives (wr_close (s := (s.1, s.2 || !decide (isName t)))) ?_
  refine TL_nil ?_
  refine T_region ?_
  refine TL_y rfl rfl (Y_move rfl) ?_
  refine TL_y rfl rfl (Y_move rfl) ?_
  refine TL_y rfl rfl (Y_len_str rfl) ?_
  refine TL_call rfl rfl (wnumber_spec 65536 (t.size : Int) (i64In_mk (by simp only [maxEl] at ht; omega)) (by decide) (by simp only; omega)) ?_
  rintro _ _ ⟨rfl, rfl⟩
  generalize hu : wNum 65536 (t.size : Int) (s.1, s.2 || !decide (isName t)) = u at *
  refine TL_nil ?_
  refine T_wr fun A2 c2 => ?_
  refine T_region_last ?_
  refine TL_y rfl rfl (Y_move rfl) ?_
  refine TL_y rfl rfl (Y_move rfl) ?_
  refine TL_y rfl rfl (Y_nil_check rfl) ?_
  refine TL_y rfl rfl (Y_field_addr rfl) ?_
  refine TL_y rfl rfl (Y_load rfl rfl) ?_
  refine TL_y rfl rfl (Y_move rfl) ?_
  refine TL_append_str rfl rfl rfl rfl (by (try simp only [List.length_append, List.length_cons, List.length_nil]); omega) ?_
  intro A26 c26
  refine TL_y rfl rfl (Y_nil_check rfl) ?_
  refine TL_y rfl rfl (Y_field_addr rfl) ?_
  refine TL_store rfl rfl rfl rfl rfl rfl ?_
  refine TL_nil ?_
  refine RetQ.gives (wr_close (s := (u.1 ++ strBytes t, u.2))) ?_
  rw [show (u.1 ++ strBytes t, u.2) = wName t s by rw [wName, hu]]
  exact RetG_0 (.inr rfl) rfl GivesTo.g (⟨rfl, rfl⟩)
theorem wtruth_spec {L : List HP} {b : Nat} {s : WS} (t : Bool) (hb : s.1.length + 10 ≤ 140737488355328) : Fn Try.prog 173 #[.pointer (some ⟨b, 0, none⟩), .bool t] (wr b s :: L) (fun v L' => v = .tuple #[] ∧ L' = wr b (wTruth t s) :: L) := by
  refine Fn_enter Try.func173 rfl rfl rfl rfl ?_
  refine T_seq ?_
  refine T_region ?_
  refine TL_y rfl rfl (Y_move rfl) ?_
  refine TL_nil ?_
  refine T_cond rfl (fun h4 => ?_) (fun h4 => ?_)
  · subst h4
    refine T_region ?_
    refine TL_y rfl rfl (Y_move rfl) ?_
    refine TL_call rfl rfl (wnumber_spec 1 1 (by decide) (by decide) hb) ?_
    rintro _ _ ⟨rfl, rfl⟩
    refine TL_nil ?_
    refine T_ret ?_
    refine thenS_ret ?_
    rw [show wNum 1 1 s = wTruth true s from rfl]
    exact RetG_0 (.inl rfl) rfl GivesTo.g (⟨rfl, rfl⟩)
  · subst h4
    refine T_skip ?_
    refine thenS_normal ?_
    refine T_region_last ?_
    refine TL_y rfl rfl (Y_move rfl) ?_
    refine TL_call rfl rfl (wnumber_spec 1 0 (by decide) (by decide) hb) ?_
    rintro _ _ ⟨rfl, rfl⟩
    refine TL_nil ?_
    rw [show wNum 1 0 s = wTruth false s from rfl]
    exact RetG_0 (.inr rfl) rfl GivesTo.g (⟨rfl, rfl⟩)
theorem wInts_next {v : List Int} {i : Nat} {n : Int} {s : WS} (h : v[i]? = some n) : wInts (v.take (i + 1)) s = wNum 2147483647 n (wInts (v.take i) s) := by
  rw [take_at h, wInts, List.foldl_append]; rfl
theorem wvector_spec {L : List HP} {b : Nat} {s : WS} {A : Option Addr} {c : Nat} {v : List Int} (hk : SlK L (intR .i64) A c v) (hb : s.1.length + 10 + 10 * v.length ≤ 140737488355328) : Fn Try.prog 151 #[.pointer (some ⟨b, 0, none⟩), .slice A v.length c] (wr b s :: L) (fun r L' => r = .tuple #[] ∧ L' = wr b (wVec v s) :: L) := by
  have hl := wNum_len 7 (v.length : Int) (s.1, s.2 || lastZero v) (by decide)
  simp only at hl
  refine Fn_enter Try.func151 rfl rfl rfl rfl ?_
  refine T_wr fun A1 c1 => ?_
  refine T_region ?_
  refine TL_y rfl rfl (Y_move rfl) ?_
  refine TL_y rfl rfl (Y_move rfl) ?_
  refine TL_y rfl rfl (Y_nil_check rfl) ?_
  refine TL_y rfl rfl (Y_field_addr rfl) ?_
  refine TL_y rfl rfl (Y_load rfl rfl) ?_
  refine TL_both 14 24 (s.2 = true ∨ lastZero v = true) ?_ ?_
  · refine TL_y rfl rfl (Y_move rfl) ?_
    refine TL_split 11 rfl (fun h11 => ?_) (fun h11 => ?_)
    · refine TL_gskip rfl rfl rfl rfl ?_
      refine TL_gskip rfl rfl rfl rfl ?_
      refine TL_gskip rfl rfl rfl rfl ?_
      refine TL_gskip rfl rfl rfl rfl ?_
      refine TL_gskip_u rfl rfl rfl ?_
      refine TL_gskip_u rfl rfl rfl ?_
      refine TL_gskip_u rfl rfl rfl ?_
      refine TL_gskip_u rfl rfl rfl ?_
      refine TL_gskip_u rfl rfl rfl ?_
      refine TL_gskip_u rfl rfl rfl ?_
      refine TL_gskip_u rfl rfl rfl ?_
      refine TL_gskip rfl rfl rfl rfl ?_
      refine TL_y rfl rfl (Y_pick_t rfl rfl) ?_
      refine TL_chain_end rfl ?_ (by repeat (first | exact sub_refl | refine sub_ext rfl ?_)) GivesTo.g
      exact congrArg Value.bool (decide_eq_true (by simp [*])).symm
    · refine TL_grun rfl rfl ?_
      refine TL_y rfl rfl (Y_move rfl) ?_
      refine TL_grun rfl rfl ?_
      refine TL_y rfl rfl (Y_len rfl) ?_
      refine TL_grun rfl rfl ?_
      refine TL_y rfl rfl (Y_gt rfl rfl) ?_
      refine TL_grun rfl rfl ?_
      refine TL_y rfl rfl (Y_move rfl) ?_
      refine TL_splitd 15 rfl (fun h15 => ?_) (fun h15 => ?_)
      · refine TL_grun rfl rfl ?_
        refine TL_y rfl rfl (Y_move rfl) ?_
        refine TL_grun rfl rfl ?_
        refine TL_y rfl rfl (Y_move rfl) ?_
        refine TL_grun rfl rfl ?_
        refine TL_y rfl rfl (Y_len rfl) ?_
        refine TL_grun rfl rfl ?_
        refine TL_y rfl rfl (Y_sub rfl rfl (by omega)) ?_
        refine TL_grun rfl rfl ?_
        obtain ⟨u, hu⟩ : ∃ u, v[v.length - 1]? = some u := ⟨_, List.getElem?_eq_getElem (by omega)⟩
        refine TL_name 19 (v' := .int .i64 ((v.length - 1 : Nat) : Int)) rfl (by congr 1; omega) ?_
        refine TL_index_int rfl rfl rfl hk.tail.tail hu ?_
        intro hi20 bi20 oi20
        refine TL_grun rfl rfl ?_
        refine TL_y rfl rfl (Y_load_row rfl rfl) ?_
        refine TL_grun rfl rfl ?_
        refine TL_y rfl rfl (Y_eq rfl rfl) ?_
        refine TL_grun rfl rfl ?_
        refine TL_y rfl rfl (Y_pick_t rfl rfl) ?_
        refine TL_y rfl rfl (Y_pick_f rfl rfl) ?_
        refine TL_chain_end rfl ?_ (by repeat (first | exact sub_refl | refine sub_ext rfl ?_)) GivesTo.g
        exact congrArg Value.bool (decide_eq_decide.2 (by simp [lastZero, hu, h11]; omega))
      · refine TL_gskip rfl rfl rfl rfl ?_
        refine TL_gskip rfl rfl rfl rfl ?_
        refine TL_gskip rfl rfl rfl rfl ?_
        refine TL_gskip rfl rfl rfl rfl ?_
        refine TL_gskip rfl rfl rfl rfl ?_
        refine TL_gskip rfl rfl rfl rfl ?_
        refine TL_gskip rfl rfl rfl rfl ?_
        refine TL_grun rfl rfl ?_
        refine TL_y rfl rfl (Y_pick_f rfl rfl) ?_
        refine TL_y rfl rfl (Y_pick_f rfl rfl) ?_
        refine TL_chain_end rfl ?_ (by repeat (first | exact sub_refl | refine sub_ext rfl ?_)) GivesTo.g
        exact congrArg Value.bool (decide_eq_false (by simp [lastZero, h11]; omega)).symm
  refine TL_name 24 (v' := .bool (s.2 || lastZero v)) rfl (by cases s.2 <;> simp) ?_
  refine TL_y rfl rfl (Y_nil_check rfl) ?_
  refine TL_y rfl rfl (Y_field_addr rfl) ?_
  refine TL_store rfl rfl rfl rfl rfl rfl ?_
  refine TL_gives (wr_close (s := (s.1, s.2 || lastZero v))) ?_
  refine TL_nil ?_
  refine T_region ?_
  refine TL_y rfl rfl (Y_move rfl) ?_
  refine TL_y rfl rfl (Y_move rfl) ?_
  refine TL_y rfl rfl (Y_len rfl) ?_
  refine TL_call rfl rfl (wnumber_spec 7 (v.length : Int) (i64In_mk (by omega)) (by decide) (by simp only; omega)) ?_
  rintro _ _ ⟨rfl, rfl⟩
  generalize hu : wNum 7 (v.length : Int) (s.1, s.2 || lastZero v) = u at *
  refine TL_nil ?_
  refine T_region ?_
  refine TL_y rfl rfl (Y_move rfl) ?_
  refine TL_y rfl rfl (Y_len rfl) ?_
  refine TL_y rfl rfl (Y_move rfl) ?_
  refine TL_nil ?_
  refine T_block ?_
  refine T_loopK (σ := Nat) [0, 31, 32] (fun i => i ≤ v.length) (fun i kv => (33, .int .i64 (i : Int)) :: kv) (fun i => wr b (wInts (v.take i) u) :: L) (fun i => v.length - i) (0) rfl (Nat.zero_le _) (GivesTo.g (L' := wr b u :: L)) (sub_cons rfl (sub_cons rfl (sub_cons rfl (sub_cons rfl (sub_nil))))) ?_
  intro i hi
  refine T_region ?_
  refine TL_y rfl rfl (Y_lt rfl rfl) ?_
  refine TL_nil ?_
  refine T_seq ?_
  refine T_if rfl (fun h34 => ?_) (fun h34 => ?_)
  · refine T_skip ?_
    refine thenS_normal ?_
    refine T_seq ?_
    refine T_block ?_
    refine T_region ?_
    obtain ⟨q, hq⟩ : ∃ q, v[i]? = some q := ⟨_, List.getElem?_eq_getElem (by omega)⟩
    have hil := wInts_len (v.take i) u
    rw [List.length_take, Nat.min_eq_left (by omega)] at hil
    have hnx := wInts_next (s := u) hq
    refine TL_index_int rfl rfl rfl hk.tail hq ?_
    intro hi35 bi35 oi35
    refine TL_y rfl rfl (Y_load_row rfl rfl) ?_
    refine TL_y rfl rfl (Y_assign rfl) ?_
    refine TL_nil ?_
    refine T_region_last ?_
    refine TL_y rfl rfl (Y_move rfl) ?_
    refine TL_y rfl rfl (Y_move rfl) ?_
    refine TL_pullk b ?_
    refine TL_call rfl rfl (wnumber_spec 2147483647 q hi35 (by decide) (by omega)) ?_
    rintro _ _ ⟨rfl, rfl⟩
    rw [← hnx]
    refine TL_nil ?_
    refine inB_normal ?_
    refine thenS_normal ?_
    refine T_region_last ?_
    refine TL_y rfl rfl (Y_add rfl rfl (by omega)) ?_
    refine TL_name 40 (v' := .int .i64 ((i + 1 : Nat) : Int)) rfl (rfl) ?_
    refine TL_y rfl rfl (Y_move rfl) ?_
    refine TL_nil ?_
    refine thenS_normal ?_
    exact ⟨i + 1, (by omega), by omega, holds_to (sub_cons rfl (sub_cons rfl (sub_cons rfl (sub_cons rfl (sub_nil))))) GivesTo.g⟩
  · refine T_exit ?_
    refine thenS_exit ?_
    refine thenS_exit ?_
    refine inB_hit ?_
    have e : v.take i = v := List.take_of_length_le (by omega)
    rw [e, show wInts v u = wVec v s by rw [wVec, hu]]
    exact RetG_0 (.inr rfl) rfl GivesTo.g (⟨rfl, rfl⟩)
theorem wballot_spec {L : List HP} {b : Nat} {s : WS} (a : Int × Int) (h1 : intIn .i64 a.1) (h2 : intIn .i64 a.2) (hb : s.1.length + 20 ≤ 140737488355328) : Fn Try.prog 148 #[.pointer (some ⟨b, 0, none⟩), .agg #[.int .i64 a.1, .int .i64 a.2]] (wr b s :: L) (fun v L' => v = .tuple #[] ∧ L' = wr b (wBal a s) :: L) := by
  have hl := wNum_len 2147483647 a.1 s (by decide)
  refine Fn_enter Try.func148 rfl rfl rfl rfl ?_
  refine T_region ?_
  refine TL_box rfl rfl rfl ?_
  intro b3
  refine TL_nil ?_
  refine T_region ?_
  refine TL_y rfl rfl (Y_move rfl) ?_
  refine TL_y rfl rfl (Y_field_addr rfl) ?_
  refine TL_y rfl rfl (Y_load rfl rfl) ?_
  refine TL_pullk b ?_
  refine TL_call rfl rfl (wnumber_spec 2147483647 a.1 h1 (by decide) (by omega)) ?_
  rintro _ _ ⟨rfl, rfl⟩
  refine TL_nil ?_
  refine T_region_last ?_
  refine TL_y rfl rfl (Y_move rfl) ?_
  refine TL_y rfl rfl (Y_field_addr rfl) ?_
  refine TL_y rfl rfl (Y_load rfl rfl) ?_
  refine TL_pullk b ?_
  refine TL_call rfl rfl (wnumber_spec 6 a.2 h2 (by decide) (by omega)) ?_
  rintro _ _ ⟨rfl, rfl⟩
  refine TL_nil ?_
  rw [← wBal]
  exact RetG_0 (.inr rfl) rfl GivesTo.g (⟨rfl, rfl⟩)
theorem wseal_spec {L : List HP} {b : Nat} {s : WS} {A : Option Addr} {c : Nat} (x : OrderD) (hx : orderOk' x) (hk : SlK L (intR .i64) A c x.cut) (hb : s.1.length + cSeal x ≤ 140737488355328) : Fn Try.prog 174 #[.pointer (some ⟨b, 0, none⟩), .agg (List.toArray (orderC x (A, c)))] (wr b s :: L) (fun v L' => v = .tuple #[] ∧ L' = wr b (wSeal x s) :: L) := by
  have h1 := wName_len x.token s
  have h2 := wName_len x.cart (wName x.token s)
  have h3 := wNum_len 2147483647 x.epoch (wName x.cart (wName x.token s)) (by decide)
  simp only [cSeal] at hb
  refine Fn_enter Try.func174 rfl rfl rfl rfl ?_
  refine T_region ?_
  refine TL_box rfl rfl rfl ?_
  intro b3
  refine TL_nil ?_
  refine T_region ?_
  refine TL_y rfl rfl (Y_move rfl) ?_
  refine TL_y rfl rfl (Y_field_addr rfl) ?_
  refine TL_y rfl rfl (Y_load rfl rfl) ?_
  refine TL_pullk b ?_
  refine TL_call rfl rfl (wname_spec x.token hx.1 (by omega)) ?_
  rintro _ _ ⟨rfl, rfl⟩
  refine TL_nil ?_
  refine T_region ?_
  refine TL_y rfl rfl (Y_move rfl) ?_
  refine TL_y rfl rfl (Y_field_addr rfl) ?_
  refine TL_y rfl rfl (Y_load rfl rfl) ?_
  refine TL_pullk b ?_
  refine TL_call rfl rfl (wname_spec x.cart hx.2.1 (by omega)) ?_
  rintro _ _ ⟨rfl, rfl⟩
  refine TL_nil ?_
  refine T_region ?_
  refine TL_y rfl rfl (Y_move rfl) ?_
  refine TL_y rfl rfl (Y_field_addr rfl) ?_
  refine TL_y rfl rfl (Y_load rfl rfl) ?_
  refine TL_pullk b ?_
  refine TL_call rfl rfl (wnumber_spec 2147483647 x.epoch hx.2.2.1 (by decide) (by omega)) ?_
  rintro _ _ ⟨rfl, rfl⟩
  refine TL_nil ?_
  refine T_region_last ?_
  refine TL_y rfl rfl (Y_move rfl) ?_
  refine TL_y rfl rfl (Y_field_addr rfl) ?_
  refine TL_y rfl rfl (Y_load rfl rfl) ?_
  refine TL_pullk b ?_
  refine TL_call rfl rfl (wvector_spec hk.tail (by omega)) ?_
  rintro _ _ ⟨rfl, rfl⟩
  refine TL_nil ?_
  rw [← wSeal]
  exact RetG_0 (.inr rfl) rfl GivesTo.g (⟨rfl, rfl⟩)
theorem wentry_spec {L : List HP} {b : Nat} {s : WS} {A : Option Addr} {c : Nat} (e : EntryD) (hx : orderOk' e.order) (hk : SlK L (intR .i64) A c e.order.cut) (hb : s.1.length + 10 + cSeal e.order ≤ 140737488355328) : Fn Try.prog 149 #[.pointer (some ⟨b, 0, none⟩), .agg (List.toArray (entryC e (A, c)))] (wr b s :: L) (fun v L' => v = .tuple #[] ∧ L' = wr b (wEntry e s) :: L) := by
  have h1 := wTruth_len e.noop s
  refine Fn_enter Try.func149 rfl rfl rfl rfl ?_
  refine T_region ?_
  refine TL_box rfl rfl rfl ?_
  intro b3
  refine TL_nil ?_
  refine T_region ?_
  refine TL_y rfl rfl (Y_move rfl) ?_
  refine TL_y rfl rfl (Y_field_addr rfl) ?_
  refine TL_y rfl rfl (Y_load rfl rfl) ?_
  refine TL_pullk b ?_
  refine TL_call rfl rfl (wtruth_spec e.noop (by omega)) ?_
  rintro _ _ ⟨rfl, rfl⟩
  generalize hu : wTruth e.noop s = u at *
  refine TL_nil ?_
  refine T_seq ?_
  refine T_region ?_
  refine TL_y rfl rfl (Y_field_addr rfl) ?_
  refine TL_y rfl rfl (Y_load rfl rfl) ?_
  refine TL_y rfl rfl (Y_not rfl) ?_
  refine TL_nil ?_
  refine T_cond rfl (fun h10 => ?_) (fun h10 => ?_)
  · have hw : wEntry e s = wSeal e.order u := by simp only [wEntry, hu]; rw [if_neg]; simpa using h10
    refine T_region ?_
    refine TL_y rfl rfl (Y_move rfl) ?_
    refine TL_y rfl rfl (Y_field_addr rfl) ?_
    refine TL_y rfl rfl (Y_load_agg rfl rfl) ?_
    refine TL_pullk b ?_
    refine TL_call rfl rfl (wseal_spec (s := u) e.order hx hk.tail (by omega)) ?_
    rintro _ _ ⟨rfl, rfl⟩
    refine TL_nil ?_
    refine T_ret ?_
    refine thenS_ret ?_
    rw [hw]
    exact RetG_0 (.inl rfl) rfl GivesTo.g (⟨rfl, rfl⟩)
  · have hw : wEntry e s = (u.1, u.2 || someSeal e.order) := by simp only [wEntry, hu]; rw [if_pos]; simpa using h10
    refine T_skip ?_
    refine thenS_normal ?_
    refine T_pullk b ?_
    refine T_wr fun A2 c2 => ?_
    refine T_region_last ?_
    refine TL_y rfl rfl (Y_move rfl) ?_
    refine TL_y rfl rfl (Y_move rfl) ?_
    refine TL_y rfl rfl (Y_nil_check rfl) ?_
    refine TL_y rfl rfl (Y_field_addr rfl) ?_
    refine TL_y rfl rfl (Y_load rfl rfl) ?_
    refine TL_both 25 44 (u.2 = true ∨ someSeal e.order = true) ?_ ?_
    · refine TL_y rfl rfl (Y_move rfl) ?_
      refine TL_split 20 rfl (fun h20 => ?_) (fun h20 => ?_)
      · refine TL_gskip rfl rfl rfl rfl ?_
        refine TL_gskip rfl rfl rfl rfl ?_
        refine TL_gskip rfl rfl rfl rfl ?_
        refine TL_gskip rfl rfl rfl rfl ?_
        refine TL_y rfl rfl (Y_pick_t rfl rfl) ?_
        refine TL_y rfl rfl (Y_move rfl) ?_
        refine TL_gskip rfl rfl rfl rfl ?_
        refine TL_gskip rfl rfl rfl rfl ?_
        refine TL_gskip rfl rfl rfl rfl ?_
        refine TL_gskip rfl rfl rfl rfl ?_
        refine TL_y rfl rfl (Y_pick_t rfl rfl) ?_
        refine TL_y rfl rfl (Y_move rfl) ?_
        refine TL_gskip rfl rfl rfl rfl ?_
        refine TL_gskip rfl rfl rfl rfl ?_
        refine TL_gskip rfl rfl rfl rfl ?_
        refine TL_gskip rfl rfl rfl rfl ?_
        refine TL_y rfl rfl (Y_pick_t rfl rfl) ?_
        refine TL_y rfl rfl (Y_move rfl) ?_
        refine TL_gskip rfl rfl rfl rfl ?_
        refine TL_gskip rfl rfl rfl rfl ?_
        refine TL_gskip rfl rfl rfl rfl ?_
        refine TL_gskip rfl rfl rfl rfl ?_
        refine TL_gskip rfl rfl rfl rfl ?_
        refine TL_y rfl rfl (Y_pick_t rfl rfl) ?_
        refine TL_chain_end rfl ?_ (by repeat (first | exact sub_refl | refine sub_ext rfl ?_)) GivesTo.g
        exact congrArg Value.bool (decide_eq_true (by simp [*, someSeal, emptyS])).symm
      · refine TL_grun rfl rfl ?_
        refine TL_y rfl rfl (Y_field_addr rfl) ?_
        refine TL_grun rfl rfl ?_
        refine TL_y rfl rfl (Y_field_addr rfl) ?_
        refine TL_grun rfl rfl ?_
        refine TL_y rfl rfl (Y_load rfl rfl) ?_
        refine TL_grun rfl rfl ?_
        refine TL_y rfl rfl (Y_str_ne rfl rfl) ?_
        refine TL_y rfl rfl (Y_pick_f rfl rfl) ?_
        refine TL_y rfl rfl (Y_move rfl) ?_
        refine TL_splitd 26 rfl (fun h26 => ?_) (fun h26 => ?_)
        · refine TL_gskip rfl rfl rfl rfl ?_
          refine TL_gskip rfl rfl rfl rfl ?_
          refine TL_gskip rfl rfl rfl rfl ?_
          refine TL_gskip rfl rfl rfl rfl ?_
          refine TL_y rfl rfl (Y_pick_t rfl rfl) ?_
          refine TL_y rfl rfl (Y_move rfl) ?_
          refine TL_gskip rfl rfl rfl rfl ?_
          refine TL_gskip rfl rfl rfl rfl ?_
          refine TL_gskip rfl rfl rfl rfl ?_
          refine TL_gskip rfl rfl rfl rfl ?_
          refine TL_y rfl rfl (Y_pick_t rfl rfl) ?_
          refine TL_y rfl rfl (Y_move rfl) ?_
          refine TL_gskip rfl rfl rfl rfl ?_
          refine TL_gskip rfl rfl rfl rfl ?_
          refine TL_gskip rfl rfl rfl rfl ?_
          refine TL_gskip rfl rfl rfl rfl ?_
          refine TL_gskip rfl rfl rfl rfl ?_
          refine TL_y rfl rfl (Y_pick_t rfl rfl) ?_
          refine TL_chain_end rfl ?_ (by repeat (first | exact sub_refl | refine sub_ext rfl ?_)) GivesTo.g
          exact congrArg Value.bool (decide_eq_true (by simp [*, someSeal, emptyS])).symm
        · refine TL_grun rfl rfl ?_
          refine TL_y rfl rfl (Y_field_addr rfl) ?_
          refine TL_grun rfl rfl ?_
          refine TL_y rfl rfl (Y_field_addr rfl) ?_
          refine TL_grun rfl rfl ?_
          refine TL_y rfl rfl (Y_load rfl rfl) ?_
          refine TL_grun rfl rfl ?_
          refine TL_y rfl rfl (Y_str_ne rfl rfl) ?_
          refine TL_y rfl rfl (Y_pick_f rfl rfl) ?_
          refine TL_y rfl rfl (Y_move rfl) ?_
          refine TL_splitd 32 rfl (fun h32 => ?_) (fun h32 => ?_)
          · refine TL_gskip rfl rfl rfl rfl ?_
            refine TL_gskip rfl rfl rfl rfl ?_
            refine TL_gskip rfl rfl rfl rfl ?_
            refine TL_gskip rfl rfl rfl rfl ?_
            refine TL_y rfl rfl (Y_pick_t rfl rfl) ?_
            refine TL_y rfl rfl (Y_move rfl) ?_
            refine TL_gskip rfl rfl rfl rfl ?_
            refine TL_gskip rfl rfl rfl rfl ?_
            refine TL_gskip rfl rfl rfl rfl ?_
            refine TL_gskip rfl rfl rfl rfl ?_
            refine TL_gskip rfl rfl rfl rfl ?_
            refine TL_y rfl rfl (Y_pick_t rfl rfl) ?_
            refine TL_chain_end rfl ?_ (by repeat (first | exact sub_refl | refine sub_ext rfl ?_)) GivesTo.g
            exact congrArg Value.bool (decide_eq_true (by simp [*, someSeal, emptyS])).symm
          · refine TL_grun rfl rfl ?_
            refine TL_y rfl rfl (Y_field_addr rfl) ?_
            refine TL_grun rfl rfl ?_
            refine TL_y rfl rfl (Y_field_addr rfl) ?_
            refine TL_grun rfl rfl ?_
            refine TL_y rfl rfl (Y_load rfl rfl) ?_
            refine TL_grun rfl rfl ?_
            refine TL_y rfl rfl (Y_ne rfl rfl) ?_
            refine TL_y rfl rfl (Y_pick_f rfl rfl) ?_
            refine TL_y rfl rfl (Y_move rfl) ?_
            refine TL_splitd 38 rfl (fun h38 => ?_) (fun h38 => ?_)
            · refine TL_gskip rfl rfl rfl rfl ?_
              refine TL_gskip rfl rfl rfl rfl ?_
              refine TL_gskip rfl rfl rfl rfl ?_
              refine TL_gskip rfl rfl rfl rfl ?_
              refine TL_gskip rfl rfl rfl rfl ?_
              refine TL_y rfl rfl (Y_pick_t rfl rfl) ?_
              refine TL_chain_end rfl ?_ (by repeat (first | exact sub_refl | refine sub_ext rfl ?_)) GivesTo.g
              exact congrArg Value.bool (decide_eq_true (by simp [*, someSeal, emptyS])).symm
            · refine TL_grun rfl rfl ?_
              refine TL_y rfl rfl (Y_field_addr rfl) ?_
              refine TL_grun rfl rfl ?_
              refine TL_y rfl rfl (Y_field_addr rfl) ?_
              refine TL_grun rfl rfl ?_
              refine TL_y rfl rfl (Y_load rfl rfl) ?_
              refine TL_grun rfl rfl ?_
              refine TL_y rfl rfl (Y_len rfl) ?_
              refine TL_grun rfl rfl ?_
              refine TL_y rfl rfl (Y_gt rfl rfl) ?_
              refine TL_y rfl rfl (Y_pick_f rfl rfl) ?_
              refine TL_chain_end rfl ?_ (by repeat (first | exact sub_refl | refine sub_ext rfl ?_)) GivesTo.g
              exact congrArg Value.bool (decide_eq_decide.2 (by simp [*, someSeal, emptyS]))
    refine TL_name 44 (v' := .bool (u.2 || someSeal e.order)) rfl (by cases u.2 <;> simp) ?_
    refine TL_y rfl rfl (Y_nil_check rfl) ?_
    refine TL_y rfl rfl (Y_field_addr rfl) ?_
    refine TL_store rfl rfl rfl rfl rfl rfl ?_
    refine TL_gives (wr_close (s := (u.1, u.2 || someSeal e.order))) ?_
    refine TL_nil ?_
    rw [hw]
    exact RetG_0 (.inr rfl) rfl GivesTo.g (⟨rfl, rfl⟩)
theorem wevent_spec {L : List HP} {b : Nat} {s : WS} {A : Option Addr} {c : Nat} (e : EventD) (hx : eventOk e) (hk : SlK L (intR .i64) A c e.deps) (hb : s.1.length + cEvent e ≤ 140737488355328) : Fn Try.prog 152 #[.pointer (some ⟨b, 0, none⟩), .agg (List.toArray (eventC e (A, c)))] (wr b s :: L) (fun v L' => v = .tuple #[] ∧ L' = wr b (wEvent e s) :: L) := by
  have h1 := wNum_len 6 e.dot.1 s (by decide)
  have h2 := wNum_len 2147483647 e.dot.2 (wNum 6 e.dot.1 s) (by decide)
  have h3 := wVec_len e.deps (wNum 2147483647 e.dot.2 (wNum 6 e.dot.1 s))
  have h4 := wName_len e.cart (wVec e.deps (wNum 2147483647 e.dot.2 (wNum 6 e.dot.1 s)))
  have h5 := wNum_len 2147483647 e.epoch (wName e.cart (wVec e.deps (wNum 2147483647 e.dot.2 (wNum 6 e.dot.1 s)))) (by decide)
  have h6 := wName_len e.sku (wNum 2147483647 e.epoch (wName e.cart (wVec e.deps (wNum 2147483647 e.dot.2 (wNum 6 e.dot.1 s)))))
  have h7 := wNum_len 1000 e.qty (wName e.sku (wNum 2147483647 e.epoch (wName e.cart (wVec e.deps (wNum 2147483647 e.dot.2 (wNum 6 e.dot.1 s)))))) (by decide)
  simp only [cEvent] at hb
  obtain ⟨q1, q2, q3, q4, q5, q6, q7⟩ := hx
  refine Fn_enter Try.func152 rfl rfl rfl rfl ?_
  refine T_region ?_
  refine TL_box rfl rfl rfl ?_
  intro b3
  refine TL_nil ?_
  refine T_region ?_
  refine TL_y rfl rfl (Y_move rfl) ?_
  refine TL_y rfl rfl (Y_field_addr rfl) ?_
  refine TL_y rfl rfl (Y_field_addr rfl) ?_
  refine TL_y rfl rfl (Y_load rfl rfl) ?_
  refine TL_pullk b ?_
  refine TL_call rfl rfl (wnumber_spec 6 e.dot.1 q1 (by decide) (by omega)) ?_
  rintro _ _ ⟨rfl, rfl⟩
  refine TL_nil ?_
  refine T_region ?_
  refine TL_y rfl rfl (Y_move rfl) ?_
  refine TL_y rfl rfl (Y_field_addr rfl) ?_
  refine TL_y rfl rfl (Y_field_addr rfl) ?_
  refine TL_y rfl rfl (Y_load rfl rfl) ?_
  refine TL_pullk b ?_
  refine TL_call rfl rfl (wnumber_spec 2147483647 e.dot.2 q2 (by decide) (by omega)) ?_
  rintro _ _ ⟨rfl, rfl⟩
  refine TL_nil ?_
  refine T_region ?_
  refine TL_y rfl rfl (Y_move rfl) ?_
  refine TL_y rfl rfl (Y_field_addr rfl) ?_
  refine TL_y rfl rfl (Y_load rfl rfl) ?_
  refine TL_pullk b ?_
  refine TL_call rfl rfl (wvector_spec hk.tail (by omega)) ?_
  rintro _ _ ⟨rfl, rfl⟩
  refine TL_nil ?_
  refine T_region ?_
  refine TL_y rfl rfl (Y_move rfl) ?_
  refine TL_y rfl rfl (Y_field_addr rfl) ?_
  refine TL_y rfl rfl (Y_load rfl rfl) ?_
  refine TL_pullk b ?_
  refine TL_call rfl rfl (wname_spec e.cart q4 (by omega)) ?_
  rintro _ _ ⟨rfl, rfl⟩
  refine TL_nil ?_
  refine T_region ?_
  refine TL_y rfl rfl (Y_move rfl) ?_
  refine TL_y rfl rfl (Y_field_addr rfl) ?_
  refine TL_y rfl rfl (Y_load rfl rfl) ?_
  refine TL_pullk b ?_
  refine TL_call rfl rfl (wnumber_spec 2147483647 e.epoch q5 (by decide) (by omega)) ?_
  rintro _ _ ⟨rfl, rfl⟩
  refine TL_nil ?_
  refine T_region ?_
  refine TL_y rfl rfl (Y_move rfl) ?_
  refine TL_y rfl rfl (Y_field_addr rfl) ?_
  refine TL_y rfl rfl (Y_load rfl rfl) ?_
  refine TL_pullk b ?_
  refine TL_call rfl rfl (wname_spec e.sku q6 (by omega)) ?_
  rintro _ _ ⟨rfl, rfl⟩
  refine TL_nil ?_
  refine T_region ?_
  refine TL_y rfl rfl (Y_move rfl) ?_
  refine TL_y rfl rfl (Y_field_addr rfl) ?_
  refine TL_y rfl rfl (Y_load rfl rfl) ?_
  refine TL_pullk b ?_
  refine TL_call rfl rfl (wnumber_spec 1000 e.qty q7 (by decide) (by omega)) ?_
  rintro _ _ ⟨rfl, rfl⟩
  refine TL_nil ?_
  refine T_region_last ?_
  refine TL_y rfl rfl (Y_move rfl) ?_
  refine TL_y rfl rfl (Y_field_addr rfl) ?_
  refine TL_y rfl rfl (Y_load rfl rfl) ?_
  refine TL_pullk b ?_
  refine TL_call rfl rfl (wtruth_spec e.clears (by omega)) ?_
  rintro _ _ ⟨rfl, rfl⟩
  refine TL_nil ?_
  rw [← wEvent]
  exact RetG_0 (.inr rfl) rfl GivesTo.g (⟨rfl, rfl⟩)
theorem wvoted_spec {L : List HP} {b : Nat} {s : WS} {A : Option Addr} {c : Nat} (v : VotedD) (hx : votedOk v) (hk : SlK L (intR .i64) A c v.en.order.cut) (hb : s.1.length + cVoted v ≤ 140737488355328) : Fn Try.prog 150 #[.pointer (some ⟨b, 0, none⟩), .agg (List.toArray (votedC v (A, c)))] (wr b s :: L) (fun r L' => r = .tuple #[] ∧ L' = wr b (wVoted v s) :: L) := by
  have h1 := wNum_len 2147483647 v.slot s (by decide)
  have h2 := wBal_len v.bal (wNum 2147483647 v.slot s)
  simp only [cVoted] at hb
  obtain ⟨q1, q2, q3, q4⟩ := hx
  refine Fn_enter Try.func150 rfl rfl rfl rfl ?_
  refine T_region ?_
  refine TL_box rfl rfl rfl ?_
  intro b3
  refine TL_nil ?_
  refine T_region ?_
  refine TL_y rfl rfl (Y_move rfl) ?_
  refine TL_y rfl rfl (Y_field_addr rfl) ?_
  refine TL_y rfl rfl (Y_load rfl rfl) ?_
  refine TL_pullk b ?_
  refine TL_call rfl rfl (wnumber_spec 2147483647 v.slot q1 (by decide) (by omega)) ?_
  rintro _ _ ⟨rfl, rfl⟩
  refine TL_nil ?_
  refine T_region ?_
  refine TL_y rfl rfl (Y_move rfl) ?_
  refine TL_y rfl rfl (Y_field_addr rfl) ?_
  refine TL_y rfl rfl (Y_load_agg rfl rfl) ?_
  refine TL_pullk b ?_
  refine TL_call rfl rfl (wballot_spec v.bal q2 q3 (by omega)) ?_
  rintro _ _ ⟨rfl, rfl⟩
  refine TL_nil ?_
  refine T_region_last ?_
  refine TL_y rfl rfl (Y_move rfl) ?_
  refine TL_y rfl rfl (Y_field_addr rfl) ?_
  refine TL_y rfl rfl (Y_load_agg rfl rfl) ?_
  refine TL_pullk b ?_
  refine TL_call rfl rfl (wentry_spec v.en q4 hk.tail (by omega)) ?_
  rintro _ _ ⟨rfl, rfl⟩
  refine TL_nil ?_
  rw [← wVoted]
  exact RetG_0 (.inr rfl) rfl GivesTo.g (⟨rfl, rfl⟩)
end Go.SL
