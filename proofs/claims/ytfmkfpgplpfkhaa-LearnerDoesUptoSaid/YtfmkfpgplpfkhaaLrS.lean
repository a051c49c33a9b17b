/- Learner: the document's learner, more walks. -/
import Derived.Test.YtfmkfpgplpfkhaaLrR
set_option linter.unusedVariables false
set_option linter.unusedSimpArgs false
namespace Go.SL
open Go Go.Proofs
theorem slot_rep {L : List HP} {s : SlotD} (p : Option Addr × Nat) (h : SlK L (intR .i64) p.1 p.2 s.2.order.cut) (ok : slotOk s) : Knows L (fun M => slotR.rep M s (slotC s p)) := ex_rep p (sep_sl h) ok
theorem refChooseL_spec {L : List HP} {b : Nat} {l : List SlotD} {A0 : Option Addr} {c0 : Nat} (slot : Int) (e : EntryD) (hi : LI l) (hs : intIn .i64 slot) (ho : orderOk' e.order) (hk : SlK L (intR .i64) A0 c0 e.order.cut) : Fn Try.prog 34 #[.pointer (some ⟨b, 0, none⟩), .int .i64 slot, entV e (A0, c0)] (rl b l :: L) (fun v L' => v = .int .i64 (chooseS l slot e).2 ∧ L' = rl b (chooseS l slot e).1 :: L) := by
  have hlen := hi.len
  refine Fn_enter Try.func34 rfl rfl rfl rfl ?_
  refine T_gives (SlK.lay hk.tail) ?_
  refine T_region ?_
  refine TL_box rfl rfl rfl ?_
  intro b5
  refine TL_y rfl rfl (Y_assign rfl) ?_
  refine TL_nil ?_
  refine T_seq ?_
  refine T_region ?_
  skip
  refine TL_y rfl rfl (Y_move rfl) ?_
  refine TL_y rfl rfl (Y_lt rfl rfl) ?_
  refine TL_both 9 20 (¬ (rEntry e ∧ 0 ≤ slot ∧ slot ≤ 2147483647)) ?_ ?_
  · refine TL_y rfl rfl (Y_move rfl) ?_
    refine TL_splitd 12 rfl (fun h12 => ?_) (fun h12 => ?_)
    · refine TL_gskip rfl rfl rfl rfl ?_
      refine TL_gskip rfl rfl rfl rfl ?_
      refine TL_y rfl rfl (Y_pick_t rfl rfl) ?_
      refine TL_y rfl rfl (Y_move rfl) ?_
      refine TL_gskip rfl rfl rfl rfl ?_
      refine TL_gskip rfl rfl rfl rfl ?_
      refine TL_gskip rfl rfl rfl rfl ?_
      refine TL_y rfl rfl (Y_pick_t rfl rfl) ?_
      refine TL_chain_end rfl ?_ (by repeat (first | exact sub_refl | refine sub_ext rfl ?_)) GivesTo.g
      exact congrArg Value.bool (decide_eq_true (by by_cases hr : rEntry e <;> simp_all <;> omega)).symm
    · refine TL_grun rfl rfl ?_
      refine TL_y rfl rfl (Y_move rfl) ?_
      refine TL_grun rfl rfl ?_
      refine TL_y rfl rfl (Y_gt rfl rfl) ?_
      refine TL_y rfl rfl (Y_pick_f rfl rfl) ?_
      refine TL_y rfl rfl (Y_move rfl) ?_
      refine TL_splitd 16 rfl (fun h16 => ?_) (fun h16 => ?_)
      · refine TL_gskip rfl rfl rfl rfl ?_
        refine TL_gskip rfl rfl rfl rfl ?_
        refine TL_gskip rfl rfl rfl rfl ?_
        refine TL_y rfl rfl (Y_pick_t rfl rfl) ?_
        refine TL_chain_end rfl ?_ (by repeat (first | exact sub_refl | refine sub_ext rfl ?_)) GivesTo.g
        exact congrArg Value.bool (decide_eq_true (by by_cases hr : rEntry e <;> simp_all <;> omega)).symm
      · refine TL_grun rfl rfl ?_
        refine TL_y rfl rfl (Y_load_agg rfl rfl) ?_
        refine TL_grun rfl rfl ?_
        refine TL_call rfl rfl (rightEntry_spec e ho slk) ?_
        rintro _ _ ⟨rfl, rfl⟩
        refine TL_grun rfl rfl ?_
        refine TL_y rfl rfl (Y_not_d rfl) ?_
        refine TL_y rfl rfl (Y_pick_f rfl rfl) ?_
        refine TL_chain_end rfl ?_ (by repeat (first | exact sub_refl | refine sub_ext rfl ?_)) GivesTo.g
        exact congrArg Value.bool (decide_eq_decide.2 (by by_cases hr : rEntry e <;> simp_all <;> omega))
  refine TL_nil ?_
  refine T_if rfl (fun h20 => ?_) (fun h20 => ?_)
  · refine T_region ?_
    refine TL_y rfl rfl (Y_assign rfl) ?_
    refine TL_nil ?_
    refine T_ret ?_
    refine thenS_ret ?_
    have hs1 : chooseS l slot e = (l, 1) := by unfold chooseS; rw [if_pos h20]
    rw [hs1]
    exact RetG_1 (.inl rfl) rfl (ResV.tmp rfl) GivesTo.g (⟨rfl, rfl⟩)
  · refine T_skip ?_
    refine thenS_normal ?_
    refine T_seq ?_
    refine T_region ?_
    refine TL_y rfl rfl (Y_move rfl) ?_
    refine TL_y rfl rfl (Y_move rfl) ?_
    refine TL_pullk b ?_
    refine TL_call rfl rfl (refGetL_spec slot) ?_
    rintro _ _ ⟨q, rfl, hoq, rfl⟩
    refine TL_y rfl rfl (Y_move rfl) ?_
    refine TL_y rfl rfl (Y_extract rfl rfl) ?_
    refine TL_y rfl rfl (Y_extract rfl rfl) ?_
    refine TL_alloc rfl rfl ?_
    intro b7
    refine TL_store rfl rfl rfl rfl rfl rfl ?_
    refine TL_y rfl rfl (Y_assign rfl) ?_
    refine TL_nil ?_
    refine T_region ?_
    refine TL_y rfl rfl (Y_move rfl) ?_
    refine TL_nil ?_
    refine T_cond rfl (fun h27 => ?_) (fun h27 => ?_)
    · have hr3 := Classical.not_not.1 h20
      obtain ⟨u, hu⟩ := Option.isSome_iff_exists.1 h27
      have hgs : getS l slot = u := by unfold getS; rw [hu]; rfl
      refine T_seq ?_
      refine T_region ?_
      refine TL_y rfl rfl (Y_load_agg rfl rfl) ?_
      refine TL_y rfl rfl (Y_load_agg rfl rfl) ?_
      refine TL_call rfl rfl (sameEntry18_spec (getS l slot) e sln (SlN.of_gives GivesTo.g hk.n)) ?_
      rintro _ _ ⟨rfl, rfl⟩
      refine TL_y rfl rfl (Y_not_d rfl) ?_
      refine TL_nil ?_
      refine T_if rfl (fun h31 => ?_) (fun h31 => ?_)
      · refine T_region ?_
        refine TL_y rfl rfl (Y_assign rfl) ?_
        refine TL_nil ?_
        refine T_ret ?_
        refine thenS_ret ?_
        refine thenS_ret ?_
        have hs1 : chooseS l slot e = (l, 180) := by unfold chooseS; rw [if_neg h20, hu]; simp only; rw [if_neg (by rw [← hgs]; exact h31)]
        rw [hs1]
        exact RetG_1 (.inl rfl) rfl (ResV.tmp rfl) GivesTo.g (⟨rfl, rfl⟩)
      · refine T_skip ?_
        refine thenS_normal ?_
        refine T_region ?_
        refine TL_y rfl rfl (Y_assign rfl) ?_
        refine TL_nil ?_
        refine T_ret ?_
        refine thenS_ret ?_
        have hs1 : chooseS l slot e = (l, 5) := by unfold chooseS; rw [if_neg h20, hu]; simp only; rw [if_pos (by rw [← hgs]; exact Classical.not_not.1 h31)]
        rw [hs1]
        exact RetG_1 (.inl rfl) rfl (ResV.tmp rfl) GivesTo.g (⟨rfl, rfl⟩)
    · have hr3 := Classical.not_not.1 h20
      have hn : getM l slot = none := by simpa using h27
      refine T_skip ?_
      refine thenS_normal ?_
      refine T_seq ?_
      refine T_pullk b ?_
      refine T_rl fun A c hlc => ?_
      simp only [maxEl] at hlc
      refine T_region ?_
      refine TL_y rfl rfl (Y_move rfl) ?_
      refine TL_y rfl rfl (Y_nil_check rfl) ?_
      refine TL_y rfl rfl (Y_field_addr rfl) ?_
      refine TL_y rfl rfl (Y_load rfl rfl) ?_
      refine TL_y rfl rfl (Y_len rfl) ?_
      refine TL_y rfl rfl (Y_ge rfl rfl) ?_
      refine TL_nil ?_
      refine T_if rfl (fun h37 => ?_) (fun h37 => ?_)
      · refine T_region ?_
        refine TL_y rfl rfl (Y_assign rfl) ?_
        refine TL_nil ?_
        refine T_ret ?_
        refine thenS_ret ?_
        have hs1 : chooseS l slot e = (l, 2) := by unfold chooseS; rw [if_neg h20, hn]; simp only; rw [if_pos (by omega)]
        rw [hs1]
        refine RetQ.gives (rl_close (A := A) (c := c) b l) ?_
        exact RetG_1 (.inl rfl) rfl (ResV.tmp rfl) GivesTo.g (⟨rfl, rfl⟩)
      · refine T_skip ?_
        refine thenS_normal ?_
        have hs1 : chooseS l slot e = (putS l slot e, 0) := by unfold chooseS; rw [if_neg h20, hn]; simp only; rw [if_neg (by omega)]
        refine T_region ?_
        refine TL_y rfl rfl (Y_assign rfl) ?_
        refine TL_nil ?_
        refine T_seq ?_
        refine T_block ?_
        refine T_loopK (σ := Nat) [0, 1, 5] (fun k => k ≤ l.length ∧ ∀ q ∈ l.take k, decide (q.1 < slot) = true) (fun k kv => (9, .int .i64 (k : Int)) :: kv) (fun k => cells b [.slice A l.length c] 72 :: osl slotR 56 A c l :: sl (intR .i64) A0 c0 e.order.cut :: cells b5 (entryC e (A0, c0)) 54 :: L) (fun k => l.length - k) (0) rfl (⟨Nat.zero_le _, by simp⟩) (GivesTo.g) (sub_cons rfl (sub_cons rfl (sub_cons rfl (sub_cons rfl (sub_nil))))) ?_
        intro k hk3
        refine T_seq ?_
        refine T_region ?_
        refine TL_y rfl rfl (Y_move rfl) ?_
        refine TL_y rfl rfl (Y_move rfl) ?_
        refine TL_y rfl rfl (Y_nil_check rfl) ?_
        refine TL_y rfl rfl (Y_field_addr rfl) ?_
        refine TL_y rfl rfl (Y_load rfl rfl) ?_
        refine TL_y rfl rfl (Y_len rfl) ?_
        refine TL_y rfl rfl (Y_lt rfl rfl) ?_
        refine TL_y rfl rfl (Y_move rfl) ?_
        refine TL_splitd 45 rfl (fun h45 => ?_) (fun h45 => ?_)
        · refine TL_grun rfl rfl ?_
          refine TL_y rfl rfl (Y_move rfl) ?_
          refine TL_grun rfl rfl ?_
          refine TL_y rfl rfl (Y_nil_check rfl) ?_
          refine TL_grun rfl rfl ?_
          refine TL_y rfl rfl (Y_field_addr rfl) ?_
          refine TL_grun rfl rfl ?_
          refine TL_y rfl rfl (Y_load rfl rfl) ?_
          refine TL_grun rfl rfl ?_
          refine TL_y rfl rfl (Y_move rfl) ?_
          refine TL_grun rfl rfl ?_
          obtain ⟨u, hu⟩ : ∃ u, l[k]? = some u := ⟨_, List.getElem?_eq_getElem (by omega)⟩
          refine TL_index_n rfl rfl rfl (rfl) (sln) (hu) ?_
          intro bn51 on51 hA51 hk51
          have hu51 := hu
          refine TL_grun rfl rfl ?_
          refine TL_y rfl rfl (Y_field_addr2 rfl) ?_
          refine TL_grun rfl rfl ?_
          refine TL_y rfl rfl (Y_load_nx rfl hk51 hu51 (fun _ => rfl)) ?_
          refine TL_grun rfl rfl ?_
          refine TL_y rfl rfl (Y_move rfl) ?_
          refine TL_grun rfl rfl ?_
          refine TL_y rfl rfl (Y_lt rfl rfl) ?_
          refine TL_y rfl rfl (Y_pick_t rfl rfl) ?_
          refine TL_nil ?_
          refine T_if rfl (fun h56 => ?_) (fun h56 => ?_)
          · refine T_skip ?_
            refine thenS_normal ?_
            refine T_block ?_
            refine T_region_last ?_
            refine TL_y rfl rfl (Y_move rfl) ?_
            refine TL_y rfl rfl (Y_add rfl rfl (by omega)) ?_
            refine TL_name 58 (v' := .int .i64 ((k + 1 : Nat) : Int)) rfl (rfl) ?_
            refine TL_y rfl rfl (Y_assign rfl) ?_
            refine TL_nil ?_
            refine inB_normal ?_
            refine thenS_normal ?_
            exact ⟨k + 1, ⟨by omega, by rw [take_at hu]; intro q hq; rcases List.mem_append.1 hq with h | h; exact hk3.2 q h; (simp at h; subst h; exact decide_eq_true h56)⟩, by omega, holds_to (sub_cons rfl (sub_cons rfl (sub_cons rfl (sub_cons rfl (sub_nil))))) GivesTo.g⟩
          · refine T_exit ?_
            refine thenS_exit ?_
            refine thenS_exit ?_
            refine inB_hit ?_
            refine thenS_normal ?_
            have hpos : posW (fun p : SlotD => decide (p.1 < slot)) l = k := posW_eq hk3.1 hk3.2 (fun q hq => by rw [hu] at hq; cases hq; exact decide_eq_false h56)
            have hput : l.take k ++ (slot, e) :: l.drop k = putS l slot e := by unfold putS insW; rw [hpos]
            have hkl := hk3.1
            have hpl : (putS l slot e).length = l.length + 1 := insW_len _ _ _
            refine T_rd [0, 0, 0, 4, 12, 28, 0, 124, 254, 0, 0, 1536, 3584, 8190, 0, 16384, 49152, 114688, 0, 507904, 1048574, 2097151, 4194303, 8388607] (by kernel_rfl) (by decide +kernel) ?_
            refine RD_pair 1 12 (by decide) ?_ ?_
            · refine RD_pair 8 12 (by decide) ?_ ?_
              · refine RD_leaf (cells b [.slice A l.length c] 72 :: osl slotR 56 A c l :: sl (intR .i64) A0 c0 e.order.cut :: cells b5 (entryC e (A0, c0)) 54 :: []) [0, 0, 0, 4, 12, 28, 0, 124, 254, 0, 0, 1536, 4094, 8190, 0, 16384, 49152, 114688, 0, 507904, 1048574, 2097151, 4194303, 8388607] [23] [(0, true), (2, true), (3, true), (4, true), (5, true), (6, true), (7, true), (9, true), (10, true), (11, true), (14, true), (15, true), (16, true), (17, true), (18, true), (19, true), (1, false), (8, false), (12, false), (13, false), (20, false), (21, true), (22, true), (23, false)] (by decide +kernel) GivesTo.g ?_
                refine TF_y rfl rfl (Y_move rfl) ?_
                refine TF_y rfl rfl (Y_move rfl) ?_
                refine TF_y rfl rfl (Y_nil_check rfl) ?_
                refine TF_y rfl rfl (Y_field_addr rfl) ?_
                refine TF_y rfl rfl (Y_load rfl rfl) ?_
                refine TF_y rfl rfl (Y_move rfl) ?_
                refine TF_y rfl rfl (Y_cut_h rfl rfl (by omega)) ?_
                refine TF_name 66 (v' := .slice A (l.take k).length c) rfl (by congr 1; rw [List.length_take]; omega) ?_
                refine TF_y rfl rfl (Y_move rfl) ?_
                refine TF_y rfl rfl (Y_load_agg rfl rfl) ?_
                refine TF_y rfl rfl (Y_build rfl rfl) ?_
                refine TF_name 70 (v' := .agg (List.toArray (slotC (slot, e) (A0, c0)))) rfl (rfl) ?_
                refine TF_y rfl rfl (Y_move rfl) ?_
                refine TF_y rfl rfl (Y_nil_check rfl) ?_
                refine TF_y rfl rfl (Y_field_addr rfl) ?_
                refine TF_y rfl rfl (Y_load rfl rfl) ?_
                refine TF_y rfl rfl (Y_move rfl) ?_
                refine TF_y rfl rfl (Y_cut_l rfl rfl (by omega)) ?_
                refine TF_name 78 (v' := .slice (cutA A k c slotR.sz) (l.drop k).length (c - k)) rfl (by rw [List.length_drop]; rfl) ?_
                refine TF_anchor rfl ?_
                refine TL_build_slice rfl rfl rfl rfl rfl rfl ?_
                intro b60
                refine TL_osl (k := 0) slotR [] (Knows.const fun M => rfl) rfl (by simp) ?_
                refine TL_name 60 (v' := .slice (some ⟨b60, 0, none⟩) ([] : List SlotD).length 0) rfl rfl ?_
                refine TF_end GivesTo.g ?_
                refine TF_anchor rfl ?_
                refine TL_append_n (R := slotR) rfl rfl rfl rfl rfl ((sln (A := A) (c := c) (xs := l)).take k) (by simp only [List.length_nil, List.length_take]; omega) ?_
                intro A67 c67
                simp only [List.nil_append]
                refine TF_end GivesTo.g ?_
                refine TF_anchor rfl ?_
                refine TL_build_slice rfl rfl rfl rfl rfl rfl ?_
                intro b71
                refine TL_osl (k := 1) slotR [(slot, e)] (cells_one' (slot_rep (A0, c0) slk ⟨hs, ho⟩)) rfl (by decide) ?_
                refine TL_freeze_osl ?_
                refine TL_name 71 (v' := .slice (some ⟨b71, 0, none⟩) [((slot, e) : SlotD)].length 1) rfl rfl ?_
                refine TF_end GivesTo.g ?_
                refine TF_anchor rfl ?_
                refine TL_append rfl rfl rfl rfl rfl slk (by simp only [List.length_cons, List.length_nil, List.length_take]; omega) ?_
                intro A72 c72
                refine TF_end GivesTo.g ?_
                refine TF_anchor rfl ?_
                refine TL_append_n (R := slotR) rfl rfl rfl rfl rfl ((sln (A := A) (c := c) (xs := l)).dropc hkl hlc.1) (by simp only [List.length_append, List.length_cons, List.length_nil, List.length_take, List.length_drop]; omega) ?_
                intro A79 c79
                rw [show l.take k ++ [(slot, e)] ++ l.drop k = putS l slot e by rw [← hput]; simp]
                refine TF_end GivesTo.g ?_
                refine TF_y rfl rfl (Y_nil_check rfl) ?_
                refine TF_y rfl rfl (Y_field_addr rfl) ?_
                refine TF_anchor rfl ?_
                refine TL_store rfl rfl rfl rfl rfl rfl ?_
                refine TF_end_tail rfl ?_
                refine TF_nil ?_
                refine thenS_normal ?_
                refine T_region ?_
                refine TL_y rfl rfl (Y_assign rfl) ?_
                refine TL_nil ?_
                refine T_ret ?_
                rw [hs1]
                refine RetQ.gives (rl_close (A := A79) (c := c79) b (putS l slot e)) ?_
                exact RetG_1 (.inl rfl) rfl (ResV.tmp rfl) GivesTo.g (⟨rfl, rfl⟩)
              · refine RD_leaf (cells b [.slice A l.length c] 72 :: osl slotR 56 A c l :: sl (intR .i64) A0 c0 e.order.cut :: cells b5 (entryC e (A0, c0)) 54 :: []) [0, 0, 0, 4, 12, 28, 0, 124, 7934, 0, 0, 1536, 3586, 8190, 0, 16384, 49152, 114688, 0, 507904, 1048574, 2097151, 4194303, 8388607] [23] [(0, true), (2, true), (3, true), (4, true), (5, true), (6, true), (7, true), (9, true), (10, true), (11, true), (14, true), (15, true), (16, true), (17, true), (18, true), (19, true), (1, false), (12, false), (8, false), (13, false), (20, false), (21, true), (22, true), (23, false)] (by decide +kernel) GivesTo.g ?_
                refine TF_y rfl rfl (Y_move rfl) ?_
                refine TF_y rfl rfl (Y_move rfl) ?_
                refine TF_y rfl rfl (Y_nil_check rfl) ?_
                refine TF_y rfl rfl (Y_field_addr rfl) ?_
                refine TF_y rfl rfl (Y_load rfl rfl) ?_
                refine TF_y rfl rfl (Y_move rfl) ?_
                refine TF_y rfl rfl (Y_cut_h rfl rfl (by omega)) ?_
                refine TF_name 66 (v' := .slice A (l.take k).length c) rfl (by congr 1; rw [List.length_take]; omega) ?_
                refine TF_y rfl rfl (Y_move rfl) ?_
                refine TF_y rfl rfl (Y_load_agg rfl rfl) ?_
                refine TF_y rfl rfl (Y_build rfl rfl) ?_
                refine TF_name 70 (v' := .agg (List.toArray (slotC (slot, e) (A0, c0)))) rfl (rfl) ?_
                refine TF_y rfl rfl (Y_move rfl) ?_
                refine TF_y rfl rfl (Y_nil_check rfl) ?_
                refine TF_y rfl rfl (Y_field_addr rfl) ?_
                refine TF_y rfl rfl (Y_load rfl rfl) ?_
                refine TF_y rfl rfl (Y_move rfl) ?_
                refine TF_y rfl rfl (Y_cut_l rfl rfl (by omega)) ?_
                refine TF_name 78 (v' := .slice (cutA A k c slotR.sz) (l.drop k).length (c - k)) rfl (by rw [List.length_drop]; rfl) ?_
                refine TF_anchor rfl ?_
                refine TL_build_slice rfl rfl rfl rfl rfl rfl ?_
                intro b60
                refine TL_osl (k := 0) slotR [] (Knows.const fun M => rfl) rfl (by simp) ?_
                refine TL_name 60 (v' := .slice (some ⟨b60, 0, none⟩) ([] : List SlotD).length 0) rfl rfl ?_
                refine TF_end GivesTo.g ?_
                refine TF_anchor rfl ?_
                refine TL_build_slice rfl rfl rfl rfl rfl rfl ?_
                intro b71
                refine TL_osl (k := 1) slotR [(slot, e)] (cells_one' (slot_rep (A0, c0) slk ⟨hs, ho⟩)) rfl (by decide) ?_
                refine TL_freeze_osl ?_
                refine TL_name 71 (v' := .slice (some ⟨b71, 0, none⟩) [((slot, e) : SlotD)].length 1) rfl rfl ?_
                refine TF_end GivesTo.g ?_
                refine TF_anchor rfl ?_
                refine TL_append_n (R := slotR) rfl rfl rfl rfl rfl ((sln (A := A) (c := c) (xs := l)).take k) (by simp only [List.length_nil, List.length_take]; omega) ?_
                intro A67 c67
                simp only [List.nil_append]
                refine TF_end GivesTo.g ?_
                refine TF_anchor rfl ?_
                refine TL_append rfl rfl rfl rfl rfl slk (by simp only [List.length_cons, List.length_nil, List.length_take]; omega) ?_
                intro A72 c72
                refine TF_end GivesTo.g ?_
                refine TF_anchor rfl ?_
                refine TL_append_n (R := slotR) rfl rfl rfl rfl rfl ((sln (A := A) (c := c) (xs := l)).dropc hkl hlc.1) (by simp only [List.length_append, List.length_cons, List.length_nil, List.length_take, List.length_drop]; omega) ?_
                intro A79 c79
                rw [show l.take k ++ [(slot, e)] ++ l.drop k = putS l slot e by rw [← hput]; simp]
                refine TF_end GivesTo.g ?_
                refine TF_y rfl rfl (Y_nil_check rfl) ?_
                refine TF_y rfl rfl (Y_field_addr rfl) ?_
                refine TF_anchor rfl ?_
                refine TL_store rfl rfl rfl rfl rfl rfl ?_
                refine TF_end_tail rfl ?_
                refine TF_nil ?_
                refine thenS_normal ?_
                refine T_region ?_
                refine TL_y rfl rfl (Y_assign rfl) ?_
                refine TL_nil ?_
                refine T_ret ?_
                rw [hs1]
                refine RetQ.gives (rl_close (A := A79) (c := c79) b (putS l slot e)) ?_
                exact RetG_1 (.inl rfl) rfl (ResV.tmp rfl) GivesTo.g (⟨rfl, rfl⟩)
            · refine RD_leaf (cells b [.slice A l.length c] 72 :: osl slotR 56 A c l :: sl (intR .i64) A0 c0 e.order.cut :: cells b5 (entryC e (A0, c0)) 54 :: []) [0, 7680, 0, 4, 12, 28, 0, 124, 7934, 0, 0, 1536, 3584, 8190, 0, 16384, 49152, 114688, 0, 507904, 1048574, 2097151, 4194303, 8388607] [23] [(0, true), (2, true), (3, true), (4, true), (5, true), (6, true), (7, true), (9, true), (10, true), (11, true), (14, true), (15, true), (16, true), (17, true), (18, true), (19, true), (12, false), (1, false), (8, false), (13, false), (20, false), (21, true), (22, true), (23, false)] (by decide +kernel) GivesTo.g ?_
              refine TF_y rfl rfl (Y_move rfl) ?_
              refine TF_y rfl rfl (Y_move rfl) ?_
              refine TF_y rfl rfl (Y_nil_check rfl) ?_
              refine TF_y rfl rfl (Y_field_addr rfl) ?_
              refine TF_y rfl rfl (Y_load rfl rfl) ?_
              refine TF_y rfl rfl (Y_move rfl) ?_
              refine TF_y rfl rfl (Y_cut_h rfl rfl (by omega)) ?_
              refine TF_name 66 (v' := .slice A (l.take k).length c) rfl (by congr 1; rw [List.length_take]; omega) ?_
              refine TF_y rfl rfl (Y_move rfl) ?_
              refine TF_y rfl rfl (Y_load_agg rfl rfl) ?_
              refine TF_y rfl rfl (Y_build rfl rfl) ?_
              refine TF_name 70 (v' := .agg (List.toArray (slotC (slot, e) (A0, c0)))) rfl (rfl) ?_
              refine TF_y rfl rfl (Y_move rfl) ?_
              refine TF_y rfl rfl (Y_nil_check rfl) ?_
              refine TF_y rfl rfl (Y_field_addr rfl) ?_
              refine TF_y rfl rfl (Y_load rfl rfl) ?_
              refine TF_y rfl rfl (Y_move rfl) ?_
              refine TF_y rfl rfl (Y_cut_l rfl rfl (by omega)) ?_
              refine TF_name 78 (v' := .slice (cutA A k c slotR.sz) (l.drop k).length (c - k)) rfl (by rw [List.length_drop]; rfl) ?_
              refine TF_anchor rfl ?_
              refine TL_build_slice rfl rfl rfl rfl rfl rfl ?_
              intro b71
              refine TL_osl (k := 1) slotR [(slot, e)] (cells_one' (slot_rep (A0, c0) slk ⟨hs, ho⟩)) rfl (by decide) ?_
              refine TL_freeze_osl ?_
              refine TL_name 71 (v' := .slice (some ⟨b71, 0, none⟩) [((slot, e) : SlotD)].length 1) rfl rfl ?_
              refine TF_end GivesTo.g ?_
              refine TF_anchor rfl ?_
              refine TL_build_slice rfl rfl rfl rfl rfl rfl ?_
              intro b60
              refine TL_osl (k := 0) slotR [] (Knows.const fun M => rfl) rfl (by simp) ?_
              refine TL_name 60 (v' := .slice (some ⟨b60, 0, none⟩) ([] : List SlotD).length 0) rfl rfl ?_
              refine TF_end GivesTo.g ?_
              refine TF_anchor rfl ?_
              refine TL_append_n (R := slotR) rfl rfl rfl rfl rfl ((sln (A := A) (c := c) (xs := l)).take k) (by simp only [List.length_nil, List.length_take]; omega) ?_
              intro A67 c67
              simp only [List.nil_append]
              refine TF_end GivesTo.g ?_
              refine TF_anchor rfl ?_
              refine TL_append rfl rfl rfl rfl rfl slk (by simp only [List.length_cons, List.length_nil, List.length_take]; omega) ?_
              intro A72 c72
              refine TF_end GivesTo.g ?_
              refine TF_anchor rfl ?_
              refine TL_append_n (R := slotR) rfl rfl rfl rfl rfl ((sln (A := A) (c := c) (xs := l)).dropc hkl hlc.1) (by simp only [List.length_append, List.length_cons, List.length_nil, List.length_take, List.length_drop]; omega) ?_
              intro A79 c79
              rw [show l.take k ++ [(slot, e)] ++ l.drop k = putS l slot e by rw [← hput]; simp]
              refine TF_end GivesTo.g ?_
              refine TF_y rfl rfl (Y_nil_check rfl) ?_
              refine TF_y rfl rfl (Y_field_addr rfl) ?_
              refine TF_anchor rfl ?_
              refine TL_store rfl rfl rfl rfl rfl rfl ?_
              refine TF_end_tail rfl ?_
              refine TF_nil ?_
              refine thenS_normal ?_
              refine T_region ?_
              refine TL_y rfl rfl (Y_assign rfl) ?_
              refine TL_nil ?_
              refine T_ret ?_
              rw [hs1]
              refine RetQ.gives (rl_close (A := A79) (c := c79) b (putS l slot e)) ?_
              exact RetG_1 (.inl rfl) rfl (ResV.tmp rfl) GivesTo.g (⟨rfl, rfl⟩)
        · refine TL_gskip rfl rfl rfl rfl ?_
          refine TL_gskip rfl rfl rfl rfl ?_
          refine TL_gskip rfl rfl rfl rfl ?_
          refine TL_gskip rfl rfl rfl rfl ?_
          refine TL_gskip rfl rfl rfl rfl ?_
          refine TL_gskip rfl rfl rfl rfl ?_
          refine TL_gskip rfl rfl rfl rfl ?_
          refine TL_gskip rfl rfl rfl rfl ?_
          refine TL_gskip rfl rfl rfl rfl ?_
          refine TL_gskip rfl rfl rfl rfl ?_
          refine TL_y rfl rfl (Y_pick_f rfl rfl) ?_
          refine TL_name 56 (v' := .bool false) rfl (by simp) ?_
          refine TL_nil ?_
          refine T_cond_false rfl ?_
          refine T_exit ?_
          refine thenS_exit ?_
          refine thenS_exit ?_
          refine inB_hit ?_
          refine thenS_normal ?_
          have hpos : posW (fun p : SlotD => decide (p.1 < slot)) l = k := posW_eq hk3.1 hk3.2 (fun q hq => by have := (List.getElem?_eq_some_iff.1 hq).1; omega)
          have hput : l.take k ++ (slot, e) :: l.drop k = putS l slot e := by unfold putS insW; rw [hpos]
          have hkl := hk3.1
          have hpl : (putS l slot e).length = l.length + 1 := insW_len _ _ _
          refine T_rd [0, 0, 0, 4, 12, 28, 0, 124, 254, 0, 0, 1536, 3584, 8190, 0, 16384, 49152, 114688, 0, 507904, 1048574, 2097151, 4194303, 8388607] (by kernel_rfl) (by decide +kernel) ?_
          refine RD_pair 1 12 (by decide) ?_ ?_
          · refine RD_pair 8 12 (by decide) ?_ ?_
            · refine RD_leaf (cells b [.slice A l.length c] 72 :: osl slotR 56 A c l :: sl (intR .i64) A0 c0 e.order.cut :: cells b5 (entryC e (A0, c0)) 54 :: []) [0, 0, 0, 4, 12, 28, 0, 124, 254, 0, 0, 1536, 4094, 8190, 0, 16384, 49152, 114688, 0, 507904, 1048574, 2097151, 4194303, 8388607] [23] [(0, true), (2, true), (3, true), (4, true), (5, true), (6, true), (7, true), (9, true), (10, true), (11, true), (14, true), (15, true), (16, true), (17, true), (18, true), (19, true), (1, false), (8, false), (12, false), (13, false), (20, false), (21, true), (22, true), (23, false)] (by decide +kernel) GivesTo.g ?_
              refine TF_y rfl rfl (Y_move rfl) ?_
              refine TF_y rfl rfl (Y_move rfl) ?_
              refine TF_y rfl rfl (Y_nil_check rfl) ?_
              refine TF_y rfl rfl (Y_field_addr rfl) ?_
              refine TF_y rfl rfl (Y_load rfl rfl) ?_
              refine TF_y rfl rfl (Y_move rfl) ?_
              refine TF_y rfl rfl (Y_cut_h rfl rfl (by omega)) ?_
              refine TF_name 66 (v' := .slice A (l.take k).length c) rfl (by congr 1; rw [List.length_take]; omega) ?_
              refine TF_y rfl rfl (Y_move rfl) ?_
              refine TF_y rfl rfl (Y_load_agg rfl rfl) ?_
              refine TF_y rfl rfl (Y_build rfl rfl) ?_
              refine TF_name 70 (v' := .agg (List.toArray (slotC (slot, e) (A0, c0)))) rfl (rfl) ?_
              refine TF_y rfl rfl (Y_move rfl) ?_
              refine TF_y rfl rfl (Y_nil_check rfl) ?_
              refine TF_y rfl rfl (Y_field_addr rfl) ?_
              refine TF_y rfl rfl (Y_load rfl rfl) ?_
              refine TF_y rfl rfl (Y_move rfl) ?_
              refine TF_y rfl rfl (Y_cut_l rfl rfl (by omega)) ?_
              refine TF_name 78 (v' := .slice (cutA A k c slotR.sz) (l.drop k).length (c - k)) rfl (by rw [List.length_drop]; rfl) ?_
              refine TF_anchor rfl ?_
              refine TL_build_slice rfl rfl rfl rfl rfl rfl ?_
              intro b60
              refine TL_osl (k := 0) slotR [] (Knows.const fun M => rfl) rfl (by simp) ?_
              refine TL_name 60 (v' := .slice (some ⟨b60, 0, none⟩) ([] : List SlotD).length 0) rfl rfl ?_
              refine TF_end GivesTo.g ?_
              refine TF_anchor rfl ?_
              refine TL_append_n (R := slotR) rfl rfl rfl rfl rfl ((sln (A := A) (c := c) (xs := l)).take k) (by simp only [List.length_nil, List.length_take]; omega) ?_
              intro A67 c67
              simp only [List.nil_append]
              refine TF_end GivesTo.g ?_
              refine TF_anchor rfl ?_
              refine TL_build_slice rfl rfl rfl rfl rfl rfl ?_
              intro b71
              refine TL_osl (k := 1) slotR [(slot, e)] (cells_one' (slot_rep (A0, c0) slk ⟨hs, ho⟩)) rfl (by decide) ?_
              refine TL_freeze_osl ?_
              refine TL_name 71 (v' := .slice (some ⟨b71, 0, none⟩) [((slot, e) : SlotD)].length 1) rfl rfl ?_
              refine TF_end GivesTo.g ?_
              refine TF_anchor rfl ?_
              refine TL_append rfl rfl rfl rfl rfl slk (by simp only [List.length_cons, List.length_nil, List.length_take]; omega) ?_
              intro A72 c72
              refine TF_end GivesTo.g ?_
              refine TF_anchor rfl ?_
              refine TL_append_n (R := slotR) rfl rfl rfl rfl rfl ((sln (A := A) (c := c) (xs := l)).dropc hkl hlc.1) (by simp only [List.length_append, List.length_cons, List.length_nil, List.length_take, List.length_drop]; omega) ?_
              intro A79 c79
              rw [show l.take k ++ [(slot, e)] ++ l.drop k = putS l slot e by rw [← hput]; simp]
              refine TF_end GivesTo.g ?_
              refine TF_y rfl rfl (Y_nil_check rfl) ?_
              refine TF_y rfl rfl (Y_field_addr rfl) ?_
              refine TF_anchor rfl ?_
              refine TL_store rfl rfl rfl rfl rfl rfl ?_
              refine TF_end_tail rfl ?_
              refine TF_nil ?_
              refine thenS_normal ?_
              refine T_region ?_
              refine TL_y rfl rfl (Y_assign rfl) ?_
              refine TL_nil ?_
              refine T_ret ?_
              rw [hs1]
              refine RetQ.gives (rl_close (A := A79) (c := c79) b (putS l slot e)) ?_
              exact RetG_1 (.inl rfl) rfl (ResV.tmp rfl) GivesTo.g (⟨rfl, rfl⟩)
            · refine RD_leaf (cells b [.slice A l.length c] 72 :: osl slotR 56 A c l :: sl (intR .i64) A0 c0 e.order.cut :: cells b5 (entryC e (A0, c0)) 54 :: []) [0, 0, 0, 4, 12, 28, 0, 124, 7934, 0, 0, 1536, 3586, 8190, 0, 16384, 49152, 114688, 0, 507904, 1048574, 2097151, 4194303, 8388607] [23] [(0, true), (2, true), (3, true), (4, true), (5, true), (6, true), (7, true), (9, true), (10, true), (11, true), (14, true), (15, true), (16, true), (17, true), (18, true), (19, true), (1, false), (12, false), (8, false), (13, false), (20, false), (21, true), (22, true), (23, false)] (by decide +kernel) GivesTo.g ?_
              refine TF_y rfl rfl (Y_move rfl) ?_
              refine TF_y rfl rfl (Y_move rfl) ?_
              refine TF_y rfl rfl (Y_nil_check rfl) ?_
              refine TF_y rfl rfl (Y_field_addr rfl) ?_
              refine TF_y rfl rfl (Y_load rfl rfl) ?_
              refine TF_y rfl rfl (Y_move rfl) ?_
              refine TF_y rfl rfl (Y_cut_h rfl rfl (by omega)) ?_
              refine TF_name 66 (v' := .slice A (l.take k).length c) rfl (by congr 1; rw [List.length_take]; omega) ?_
              refine TF_y rfl rfl (Y_move rfl) ?_
              refine TF_y rfl rfl (Y_load_agg rfl rfl) ?_
              refine TF_y rfl rfl (Y_build rfl rfl) ?_
              refine TF_name 70 (v' := .agg (List.toArray (slotC (slot, e) (A0, c0)))) rfl (rfl) ?_
              refine TF_y rfl rfl (Y_move rfl) ?_
              refine TF_y rfl rfl (Y_nil_check rfl) ?_
              refine TF_y rfl rfl (Y_field_addr rfl) ?_
              refine TF_y rfl rfl (Y_load rfl rfl) ?_
              refine TF_y rfl rfl (Y_move rfl) ?_
              refine TF_y rfl rfl (Y_cut_l rfl rfl (by omega)) ?_
              refine TF_name 78 (v' := .slice (cutA A k c slotR.sz) (l.drop k).length (c - k)) rfl (by rw [List.length_drop]; rfl) ?_
              refine TF_anchor rfl ?_
              refine TL_build_slice rfl rfl rfl rfl rfl rfl ?_
              intro b60
              refine TL_osl (k := 0) slotR [] (Knows.const fun M => rfl) rfl (by simp) ?_
              refine TL_name 60 (v' := .slice (some ⟨b60, 0, none⟩) ([] : List SlotD).length 0) rfl rfl ?_
              refine TF_end GivesTo.g ?_
              refine TF_anchor rfl ?_
              refine TL_build_slice rfl rfl rfl rfl rfl rfl ?_
              intro b71
              refine TL_osl (k := 1) slotR [(slot, e)] (cells_one' (slot_rep (A0, c0) slk ⟨hs, ho⟩)) rfl (by decide) ?_
              refine TL_freeze_osl ?_
              refine TL_name 71 (v' := .slice (some ⟨b71, 0, none⟩) [((slot, e) : SlotD)].length 1) rfl rfl ?_
              refine TF_end GivesTo.g ?_
              refine TF_anchor rfl ?_
              refine TL_append_n (R := slotR) rfl rfl rfl rfl rfl ((sln (A := A) (c := c) (xs := l)).take k) (by simp only [List.length_nil, List.length_take]; omega) ?_
              intro A67 c67
              simp only [List.nil_append]
              refine TF_end GivesTo.g ?_
              refine TF_anchor rfl ?_
              refine TL_append rfl rfl rfl rfl rfl slk (by simp only [List.length_cons, List.length_nil, List.length_take]; omega) ?_
              intro A72 c72
              refine TF_end GivesTo.g ?_
              refine TF_anchor rfl ?_
              refine TL_append_n (R := slotR) rfl rfl rfl rfl rfl ((sln (A := A) (c := c) (xs := l)).dropc hkl hlc.1) (by simp only [List.length_append, List.length_cons, List.length_nil, List.length_take, List.length_drop]; omega) ?_
              intro A79 c79
              rw [show l.take k ++ [(slot, e)] ++ l.drop k = putS l slot e by rw [← hput]; simp]
              refine TF_end GivesTo.g ?_
              refine TF_y rfl rfl (Y_nil_check rfl) ?_
              refine TF_y rfl rfl (Y_field_addr rfl) ?_
              refine TF_anchor rfl ?_
              refine TL_store rfl rfl rfl rfl rfl rfl ?_
              refine TF_end_tail rfl ?_
              refine TF_nil ?_
              refine thenS_normal ?_
              refine T_region ?_
              refine TL_y rfl rfl (Y_assign rfl) ?_
              refine TL_nil ?_
              refine T_ret ?_
              rw [hs1]
              refine RetQ.gives (rl_close (A := A79) (c := c79) b (putS l slot e)) ?_
              exact RetG_1 (.inl rfl) rfl (ResV.tmp rfl) GivesTo.g (⟨rfl, rfl⟩)
          · refine RD_leaf (cells b [.slice A l.length c] 72 :: osl slotR 56 A c l :: sl (intR .i64) A0 c0 e.order.cut :: cells b5 (entryC e (A0, c0)) 54 :: []) [0, 7680, 0, 4, 12, 28, 0, 124, 7934, 0, 0, 1536, 3584, 8190, 0, 16384, 49152, 114688, 0, 507904, 1048574, 2097151, 4194303, 8388607] [23] [(0, true), (2, true), (3, true), (4, true), (5, true), (6, true), (7, true), (9, true), (10, true), (11, true), (14, true), (15, true), (16, true), (17, true), (18, true), (19, true), (12, false), (1, false), (8, false), (13, false), (20, false), (21, true), (22, true), (23, false)] (by decide +kernel) GivesTo.g ?_
            refine TF_y rfl rfl (Y_move rfl) ?_
            refine TF_y rfl rfl (Y_move rfl) ?_
            refine TF_y rfl rfl (Y_nil_check rfl) ?_
            refine TF_y rfl rfl (Y_field_addr rfl) ?_
            refine TF_y rfl rfl (Y_load rfl rfl) ?_
            refine TF_y rfl rfl (Y_move rfl) ?_
            refine TF_y rfl rfl (Y_cut_h rfl rfl (by omega)) ?_
            refine TF_name 66 (v' := .slice A (l.take k).length c) rfl (by congr 1; rw [List.length_take]; omega) ?_
            refine TF_y rfl rfl (Y_move rfl) ?_
            refine TF_y rfl rfl (Y_load_agg rfl rfl) ?_
            refine TF_y rfl rfl (Y_build rfl rfl) ?_
            refine TF_name 70 (v' := .agg (List.toArray (slotC (slot, e) (A0, c0)))) rfl (rfl) ?_
            refine TF_y rfl rfl (Y_move rfl) ?_
            refine TF_y rfl rfl (Y_nil_check rfl) ?_
            refine TF_y rfl rfl (Y_field_addr rfl) ?_
            refine TF_y rfl rfl (Y_load rfl rfl) ?_
            refine TF_y rfl rfl (Y_move rfl) ?_
            refine TF_y rfl rfl (Y_cut_l rfl rfl (by omega)) ?_
            refine TF_name 78 (v' := .slice (cutA A k c slotR.sz) (l.drop k).length (c - k)) rfl (by rw [List.length_drop]; rfl) ?_
            refine TF_anchor rfl ?_
            refine TL_build_slice rfl rfl rfl rfl rfl rfl ?_
            intro b71
            refine TL_osl (k := 1) slotR [(slot, e)] (cells_one' (slot_rep (A0, c0) slk ⟨hs, ho⟩)) rfl (by decide) ?_
            refine TL_freeze_osl ?_
            refine TL_name 71 (v' := .slice (some ⟨b71, 0, none⟩) [((slot, e) : SlotD)].length 1) rfl rfl ?_
            refine TF_end GivesTo.g ?_
            refine TF_anchor rfl ?_
            refine TL_build_slice rfl rfl rfl rfl rfl rfl ?_
            intro b60
            refine TL_osl (k := 0) slotR [] (Knows.const fun M => rfl) rfl (by simp) ?_
            refine TL_name 60 (v' := .slice (some ⟨b60, 0, none⟩) ([] : List SlotD).length 0) rfl rfl ?_
            refine TF_end GivesTo.g ?_
            refine TF_anchor rfl ?_
            refine TL_append_n (R := slotR) rfl rfl rfl rfl rfl ((sln (A := A) (c := c) (xs := l)).take k) (by simp only [List.length_nil, List.length_take]; omega) ?_
            intro A67 c67
            simp only [List.nil_append]
            refine TF_end GivesTo.g ?_
            refine TF_anchor rfl ?_
            refine TL_append rfl rfl rfl rfl rfl slk (by simp only [List.length_cons, List.length_nil, List.length_take]; omega) ?_
            intro A72 c72
            refine TF_end GivesTo.g ?_
            refine TF_anchor rfl ?_
            refine TL_append_n (R := slotR) rfl rfl rfl rfl rfl ((sln (A := A) (c := c) (xs := l)).dropc hkl hlc.1) (by simp only [List.length_append, List.length_cons, List.length_nil, List.length_take, List.length_drop]; omega) ?_
            intro A79 c79
            rw [show l.take k ++ [(slot, e)] ++ l.drop k = putS l slot e by rw [← hput]; simp]
            refine TF_end GivesTo.g ?_
            refine TF_y rfl rfl (Y_nil_check rfl) ?_
            refine TF_y rfl rfl (Y_field_addr rfl) ?_
            refine TF_anchor rfl ?_
            refine TL_store rfl rfl rfl rfl rfl rfl ?_
            refine TF_end_tail rfl ?_
            refine TF_nil ?_
            refine thenS_normal ?_
            refine T_region ?_
            refine TL_y rfl rfl (Y_assign rfl) ?_
            refine TL_nil ?_
            refine T_ret ?_
            rw [hs1]
            refine RetQ.gives (rl_close (A := A79) (c := c79) b (putS l slot e)) ?_
            exact RetG_1 (.inl rfl) rfl (ResV.tmp rfl) GivesTo.g (⟨rfl, rfl⟩)
theorem refPrefixL_spec {L : List HP} {b : Nat} {l : List SlotD} (hi : LI l) : Fn Try.prog 58 #[.pointer (some ⟨b, 0, none⟩)] (rl b l :: L) (fun v L' => v = .int .i64 ((pfx l : Nat) : Int) ∧ L' = rl b l :: L) := by
  have hlen := hi.len
  obtain ⟨g1, g2, g3, g4⟩ := hi.spec
  refine Fn_enter Try.func58 rfl rfl rfl rfl ?_
  refine T_rl fun A c hlc => ?_
  refine T_region ?_
  refine TL_y rfl rfl (Y_assign rfl) ?_
  refine TL_nil ?_
  refine T_region ?_
  refine TL_y rfl rfl (Y_assign rfl) ?_
  refine TL_nil ?_
  refine T_seq ?_
  refine T_block ?_
  refine T_loopK (σ := Nat) [0] (fun n => n ≤ pfx l) (fun n kv => (3, .int .i64 (n : Int)) :: kv) (fun n => cells b [.slice A l.length c] 72 :: osl slotR 56 A c l :: L) (fun n => pfx l - n) (0) rfl (Nat.zero_le _) (GivesTo.g) (sub_cons rfl (sub_cons rfl (sub_nil))) ?_
  intro n hn
  refine T_seq ?_
  refine T_region ?_
  refine TL_y rfl rfl (Y_move rfl) ?_
  refine TL_y rfl rfl (Y_move rfl) ?_
  refine TL_y rfl rfl (Y_nil_check rfl) ?_
  refine TL_y rfl rfl (Y_field_addr rfl) ?_
  refine TL_y rfl rfl (Y_load rfl rfl) ?_
  refine TL_y rfl rfl (Y_len rfl) ?_
  refine TL_y rfl rfl (Y_lt rfl rfl) ?_
  refine TL_y rfl rfl (Y_move rfl) ?_
  refine TL_splitd 11 rfl (fun h11 => ?_) (fun h11 => ?_)
  · refine TL_grun rfl rfl ?_
    refine TL_y rfl rfl (Y_move rfl) ?_
    refine TL_grun rfl rfl ?_
    refine TL_y rfl rfl (Y_nil_check rfl) ?_
    refine TL_grun rfl rfl ?_
    refine TL_y rfl rfl (Y_field_addr rfl) ?_
    refine TL_grun rfl rfl ?_
    refine TL_y rfl rfl (Y_load rfl rfl) ?_
    refine TL_grun rfl rfl ?_
    refine TL_y rfl rfl (Y_move rfl) ?_
    refine TL_grun rfl rfl ?_
    obtain ⟨u, hu⟩ : ∃ u, l[n]? = some u := ⟨_, List.getElem?_eq_getElem (by omega)⟩
    refine TL_index_n rfl rfl rfl (rfl) (sln) (hu) ?_
    intro bn17 on17 hA17 hk17
    have hu17 := hu
    refine TL_grun rfl rfl ?_
    refine TL_y rfl rfl (Y_field_addr2 rfl) ?_
    refine TL_grun rfl rfl ?_
    refine TL_y rfl rfl (Y_load_nx rfl hk17 hu17 (fun _ => rfl)) ?_
    refine TL_grun rfl rfl ?_
    refine TL_y rfl rfl (Y_move rfl) ?_
    refine TL_grun rfl rfl ?_
    refine TL_y rfl rfl (Y_eq rfl rfl) ?_
    refine TL_y rfl rfl (Y_pick_t rfl rfl) ?_
    refine TL_nil ?_
    refine T_if rfl (fun h22 => ?_) (fun h22 => ?_)
    · refine T_skip ?_
      refine thenS_normal ?_
      refine T_block ?_
      have hlt : n < pfx l := Nat.lt_of_not_le fun h => by have hd := g3 u (by rw [show pfx l = n by omega, drop_at hu]; exact List.mem_cons_self); omega
      refine T_region_last ?_
      refine TL_y rfl rfl (Y_move rfl) ?_
      refine TL_y rfl rfl (Y_add rfl rfl (by omega)) ?_
      refine TL_name 24 (v' := .int .i64 ((n + 1 : Nat) : Int)) rfl (rfl) ?_
      refine TL_y rfl rfl (Y_assign rfl) ?_
      refine TL_nil ?_
      refine inB_normal ?_
      refine thenS_normal ?_
      exact ⟨n + 1, (by omega), by omega, holds_to (sub_cons rfl (sub_cons rfl (sub_nil))) GivesTo.g⟩
    · refine T_exit ?_
      refine thenS_exit ?_
      refine thenS_exit ?_
      refine inB_hit ?_
      refine thenS_normal ?_
      have he : n = pfx l := by rcases Nat.lt_or_eq_of_le hn with h | h; (obtain ⟨e, he⟩ := g2 n h; rw [hu] at he; cases he; exact absurd rfl h22); exact h
      subst he
      refine T_region ?_
      refine TL_y rfl rfl (Y_move rfl) ?_
      refine TL_y rfl rfl (Y_assign rfl) ?_
      refine TL_nil ?_
      refine T_ret ?_
      refine RetQ.gives (rl_close (A := A) (c := c) b l) ?_
      exact RetG_1 (.inl rfl) rfl (ResV.tmp rfl) GivesTo.g (⟨rfl, rfl⟩)
  · refine TL_gskip rfl rfl rfl rfl ?_
    refine TL_gskip rfl rfl rfl rfl ?_
    refine TL_gskip rfl rfl rfl rfl ?_
    refine TL_gskip rfl rfl rfl rfl ?_
    refine TL_gskip rfl rfl rfl rfl ?_
    refine TL_gskip rfl rfl rfl rfl ?_
    refine TL_gskip rfl rfl rfl rfl ?_
    refine TL_gskip rfl rfl rfl rfl ?_
    refine TL_gskip rfl rfl rfl rfl ?_
    refine TL_gskip rfl rfl rfl rfl ?_
    refine TL_y rfl rfl (Y_pick_f rfl rfl) ?_
    refine TL_name 22 (v' := .bool false) rfl (by simp) ?_
    refine TL_nil ?_
    refine T_cond_false rfl ?_
    refine T_exit ?_
    refine thenS_exit ?_
    refine thenS_exit ?_
    refine inB_hit ?_
    refine thenS_normal ?_
    have he : n = pfx l := by omega
    subst he
    refine T_region ?_
    refine TL_y rfl rfl (Y_move rfl) ?_
    refine TL_y rfl rfl (Y_assign rfl) ?_
    refine TL_nil ?_
    refine T_ret ?_
    refine RetQ.gives (rl_close (A := A) (c := c) b l) ?_
    exact RetG_1 (.inl rfl) rfl (ResV.tmp rfl) GivesTo.g (⟨rfl, rfl⟩)
theorem extra_getL {l : List SlotD} {i : Nat} {u : SlotD} (h : l[pfx l + i]? = some u) : (extraN l)[i]? = some u.1 := by
  unfold extraN
  rw [List.getElem?_map, List.getElem?_drop, h]; rfl
theorem refExtrasL_spec {L : List HP} {b : Nat} {l : List SlotD} (hi : LI l) : Fn Try.prog 59 #[.pointer (some ⟨b, 0, none⟩)] (rl b l :: L) (fun v L' => ∃ A c, v = .slice A (extraN l).length c ∧ L' = osl (intR .i64) 3 A c (extraN l) :: rl b l :: L) := by
  have hlen := hi.len
  have g1 := hi.spec.1
  have hxl : (extraN l).length = l.length - pfx l := by unfold extraN; rw [List.length_map, List.length_drop]
  refine Fn_enter Try.func59 rfl rfl rfl rfl ?_
  refine T_region ?_
  refine TL_y rfl rfl (Y_assign rfl) ?_
  refine TL_nil ?_
  refine T_region ?_
  refine TL_y rfl rfl (Y_assign rfl) ?_
  refine TL_nil ?_
  refine T_seq ?_
  refine T_region ?_
  refine TL_y rfl rfl (Y_move rfl) ?_
  refine TL_call rfl rfl (refPrefixL_spec hi) ?_
  rintro _ _ ⟨rfl, rfl⟩
  refine TL_y rfl rfl (Y_assign rfl) ?_
  refine TL_nil ?_
  refine T_block ?_
  refine T_loopK (σ := OutSt) [0] (fun g => g.i ≤ (extraN l).length) (fun g kv => (4, .int .i64 ((pfx l + g.i : Nat) : Int)) :: (3, .slice g.A ((extraN l).take g.i).length g.c) :: kv) (fun g => osl (intR .i64) 3 g.A g.c ((extraN l).take g.i) :: rl b l :: L) (fun g => (extraN l).length - g.i) (⟨0, none, 0⟩) rfl (Nat.zero_le _) (osl_nil (intR .i64) 3 none _) (sub_cons rfl (sub_cons rfl (sub_cons rfl (sub_nil)))) ?_
  rintro ⟨i, A1, c1⟩ hil
  dsimp only at hil ⊢
  refine T_pullk b ?_
  refine T_rl fun A c hlc => ?_
  refine T_seq ?_
  skip
  refine T_region ?_
  refine TL_y rfl rfl (Y_move rfl) ?_
  refine TL_y rfl rfl (Y_move rfl) ?_
  refine TL_y rfl rfl (Y_nil_check rfl) ?_
  refine TL_y rfl rfl (Y_field_addr rfl) ?_
  refine TL_y rfl rfl (Y_load rfl rfl) ?_
  refine TL_y rfl rfl (Y_len rfl) ?_
  refine TL_y rfl rfl (Y_lt rfl rfl) ?_
  refine TL_nil ?_
  refine T_if rfl (fun h13 => ?_) (fun h13 => ?_)
  · refine T_skip ?_
    refine thenS_normal ?_
    refine T_seq ?_
    refine T_block ?_
    obtain ⟨u, hu⟩ : ∃ u, l[pfx l + i]? = some u := ⟨_, List.getElem?_eq_getElem (by omega)⟩
    have hx := extra_getL hu
    have hku := hi.keys u (List.mem_of_getElem? hu)
    refine T_region_last ?_
    refine TL_y rfl rfl (Y_move rfl) ?_
    refine TL_y rfl rfl (Y_move rfl) ?_
    refine TL_y rfl rfl (Y_nil_check rfl) ?_
    refine TL_y rfl rfl (Y_field_addr rfl) ?_
    refine TL_y rfl rfl (Y_load rfl rfl) ?_
    refine TL_y rfl rfl (Y_move rfl) ?_
    refine TL_index_n rfl rfl rfl (rfl) (sln) (hu) ?_
    intro bn22 on22 hA22 hk22
    have hu22 := hu
    refine TL_y rfl rfl (Y_field_addr2 rfl) ?_
    refine TL_y rfl rfl (Y_load_nx rfl hk22 hu22 (fun _ => rfl)) ?_
    refine TL_build_slice rfl rfl rfl rfl rfl rfl ?_
    intro b25
    refine TL_osl (k := 1) (intR .i64) [u.1] (Knows.const fun M => ⟨[.int .i64 u.1], [], ⟨rfl, i64In_mk (by omega)⟩, rfl, rfl⟩) rfl (by decide) ?_
    refine TL_freeze_osl ?_
    refine TL_name 25 (v' := .slice (some ⟨b25, 0, none⟩) [u.1].length 1) rfl rfl ?_
    refine TL_append rfl rfl rfl rfl rfl slk (by simp only [List.length_cons, List.length_nil, List.length_take]; omega) ?_
    intro A26 c26
    rw [← take_at hx]
    refine TL_y rfl rfl (Y_assign rfl) ?_
    refine TL_nil ?_
    refine inB_normal ?_
    refine thenS_normal ?_
    refine T_region_last ?_
    refine TL_y rfl rfl (Y_move rfl) ?_
    refine TL_y rfl rfl (Y_add rfl rfl (by omega)) ?_
    refine TL_name 15 (v' := .int .i64 ((pfx l + (i + 1) : Nat) : Int)) rfl (rfl) ?_
    refine TL_y rfl rfl (Y_assign rfl) ?_
    refine TL_nil ?_
    refine thenS_normal ?_
    skip
    exact ⟨⟨i + 1, A26, c26⟩, (by simp only; omega), (by simp only; omega), holds_to (sub_cons rfl (sub_cons rfl (sub_cons rfl (sub_nil)))) ((rl_close (A := A) (c := c) b l).trans GivesTo.g)⟩
  · refine T_exit ?_
    refine thenS_exit ?_
    refine thenS_exit ?_
    refine inB_hit ?_
    refine thenS_normal ?_
    refine T_region ?_
    refine TL_y rfl rfl (Y_move rfl) ?_
    refine TL_y rfl rfl (Y_assign rfl) ?_
    refine TL_nil ?_
    refine T_ret ?_
    refine RetQ.gives (rl_close (A := A) (c := c) b l) ?_
    rw [show (extraN l).take i = extraN l from List.take_of_length_le (by omega)]
    exact RetG_1 (.inl rfl) rfl (ResV.tmp rfl) GivesTo.g (⟨A1, c1, rfl, rfl⟩)
end Go.SL
