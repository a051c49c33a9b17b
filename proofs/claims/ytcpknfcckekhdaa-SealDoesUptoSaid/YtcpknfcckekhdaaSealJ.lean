/- Seal: whatever entries are carried out. -/
import Derived.Test.YtcpknfcckekhdaaSealI
set_option linter.unusedVariables false
set_option linter.unusedSimpArgs false
namespace Go.SL
open Go Go.Proofs
theorem refDo_spec {L : List HP} {b : Nat} {A A0 : Option Addr} {c c0 : Nat} {s : SM} (e : EntryD) (hx : orderOk' e.order) (hks : SlK L ordR A c s.os) (hk : SlK L (intR .i64) A0 c0 e.order.cut) (hd : intIn .i64 (s.dn + 1)) (h65 : s.os.length ≤ 65536) : Fn Try.prog 29 #[.pointer (some ⟨b, 0, none⟩), entryV e (A0, c0)] (rfC b A c s :: L)
    (fun v L' => ∃ A' c' A2 c2, v = .tuple #[ordV (doS s e).2.1 (A', c'), .bool (doS s e).2.2.1, .int .i64 (doS s e).2.2.2] ∧ L' = sl (intR .i64) A' c' (doS s e).2.1.x.cut :: rfC b A2 c2 (doS s e).1 :: sl ordR A2 c2 (doS s e).1.os :: L) := by
  have hd := i64In hd
  have hno : ordOk (newS s.os e.order) := ⟨i64In_mk (by show -9223372036854775808 ≤ ((s.os.length : Nat) : Int) + 1 ∧ ((s.os.length : Nat) : Int) + 1 ≤ 9223372036854775807; omega), hx⟩
  refine Fn_enter Try.func29 rfl rfl rfl rfl ?_
  refine T_gives (SlK.lay hk.tail) ?_
  refine T_gives (SlK.lay hks.tail.tail) ?_
  refine T_region ?_
  refine TL_box rfl rfl rfl ?_
  intro b3
  refine TL_alloc rfl rfl ?_
  intro b4
  refine TL_y rfl rfl (Y_assign rfl) ?_
  refine TL_y rfl rfl (Y_assign rfl) ?_
  refine TL_nil ?_
  refine T_seq ?_
  refine T_region ?_
  refine TL_y rfl rfl (Y_load_agg rfl rfl) ?_
  refine TL_call rfl rfl (rightEntry_spec e hx slk) ?_
  rintro _ _ ⟨rfl, rfl⟩
  refine TL_y rfl rfl (Y_not rfl) ?_
  refine TL_nil ?_
  refine T_cond rfl (fun h12 => ?_) (fun h12 => ?_)
  · have hr : ¬ rEntry e := by simpa using h12
    refine T_region ?_
    refine TL_y rfl rfl (Y_build rfl rfl) ?_
    refine TL_store rfl rfl rfl rfl rfl rfl ?_
    refine TL_y rfl rfl (Y_assign rfl) ?_
    refine TL_y rfl rfl (Y_assign rfl) ?_
    refine TL_nil ?_
    refine T_ret ?_
    refine thenS_ret ?_
    have hdo : doS s e = (s, ord0, false, 1) := by unfold doS; rw [if_pos hr]
    rw [hdo]
    refine RetQ.gives (slnil (A := none) (c := 0) (R := intR .i64)).lay ?_
    exact RetG_3 (.inl rfl) rfl (ResV.agg rfl rfl) (ResV.tmp rfl) (ResV.tmp rfl) GivesTo.g (⟨none, 0, A, c, rfl, rfl⟩)
  · have hr : rEntry e := by simpa using h12
    refine T_skip ?_
    refine thenS_normal ?_
    refine T_region ?_
    refine TL_y rfl rfl (Y_move rfl) ?_
    refine TL_y rfl rfl (Y_nil_check rfl) ?_
    refine TL_y rfl rfl (Y_field_addr rfl) ?_
    refine TL_y rfl rfl (Y_load rfl rfl) ?_
    refine TL_y rfl rfl (Y_add rfl rfl (by omega)) ?_
    refine TL_y rfl rfl (Y_nil_check rfl) ?_
    refine TL_y rfl rfl (Y_field_addr rfl) ?_
    refine TL_store rfl rfl rfl rfl rfl rfl ?_
    refine TL_nil ?_
    refine T_seq ?_
    refine T_region ?_
    refine TL_y rfl rfl (Y_field_addr rfl) ?_
    refine TL_y rfl rfl (Y_load rfl rfl) ?_
    refine TL_nil ?_
    refine T_cond rfl (fun h22 => ?_) (fun h22 => ?_)
    · refine T_region ?_
      refine TL_y rfl rfl (Y_build rfl rfl) ?_
      refine TL_store rfl rfl rfl rfl rfl rfl ?_
      refine TL_y rfl rfl (Y_assign rfl) ?_
      refine TL_y rfl rfl (Y_assign rfl) ?_
      refine TL_nil ?_
      refine T_ret ?_
      refine thenS_ret ?_
      have hdo : doS s e = (⟨s.os, s.dn + 1⟩, ord0, false, 0) := by unfold doS; rw [if_neg (fun h => h hr), if_pos h22]
      rw [hdo]
      refine RetQ.gives (slnil (A := none) (c := 0) (R := intR .i64)).lay ?_
      exact RetG_3 (.inl rfl) rfl (ResV.agg rfl rfl) (ResV.tmp rfl) (ResV.tmp rfl) GivesTo.g (⟨none, 0, A, c, rfl, rfl⟩)
    · refine T_skip ?_
      refine thenS_normal ?_
      refine T_seq ?_
      refine T_region ?_
      refine TL_y rfl rfl (Y_move rfl) ?_
      refine TL_y rfl rfl (Y_field_addr rfl) ?_
      refine TL_y rfl rfl (Y_field_addr rfl) ?_
      refine TL_y rfl rfl (Y_load rfl rfl) ?_
      refine TL_pullk b ?_
      refine TL_call rfl rfl (refToken_spec (s := ⟨s.os, s.dn + 1⟩) e.order.token hx.1 slk) ?_
      rintro _ _ ⟨A29, c29, rfl, rfl⟩
      refine TL_y rfl rfl (Y_move rfl) ?_
      refine TL_y rfl rfl (Y_extract rfl rfl) ?_
      refine TL_y rfl rfl (Y_extract rfl rfl) ?_
      refine TL_alloc rfl rfl ?_
      intro b7
      refine TL_store rfl rfl rfl rfl rfl rfl ?_
      refine TL_y rfl rfl (Y_assign rfl) ?_
      refine TL_nil ?_
      refine T_region ?_
      refine TL_y rfl rfl (Y_move rfl) ?_
      refine TL_nil ?_
      refine T_cond rfl (fun h32 => ?_) (fun h32 => ?_)
      · obtain ⟨o, ho⟩ := Option.isSome_iff_exists.1 h32
        have hdo : doS s e = (⟨s.os, s.dn + 1⟩, o, false, 0) := by unfold doS; rw [if_neg (fun h => h hr), if_neg (by simp [h22])]; simp only [ho]
        refine T_region ?_
        refine TL_y rfl rfl (Y_load_agg rfl rfl) ?_
        refine TL_store rfl rfl rfl rfl rfl rfl ?_
        refine TL_y rfl rfl (Y_assign rfl) ?_
        refine TL_y rfl rfl (Y_assign rfl) ?_
        refine TL_nil ?_
        refine T_ret ?_
        refine thenS_ret ?_
        simp only [ho, show orE (some o) = o from rfl]
        rw [hdo]
        exact RetG_3 (.inl rfl) rfl (ResV.agg rfl rfl) (ResV.tmp rfl) (ResV.tmp rfl) GivesTo.g (⟨A29, c29, A, c, rfl, rfl⟩)
      · have ht : tokS s.os e.order.token = none := by simpa using h32
        refine T_skip ?_
        refine thenS_normal ?_
        refine T_seq ?_
        refine T_region_draw _ [0, 1, 3, 0, 0, 16, 48, 120, 255] [] [(0, true), (1, true), (2, true), (3, true), (4, true), (5, true), (6, true), (7, false), (8, true)] (by kernel_rfl) (by decide +kernel) (Gives.refl _) ?_
        refine TF_y rfl rfl (Y_field_addr rfl) ?_
        refine TF_y rfl rfl (Y_field_addr rfl) ?_
        refine TF_y rfl rfl (Y_load rfl rfl) ?_
        refine TF_y rfl rfl (Y_move rfl) ?_
        refine TF_y rfl rfl (Y_field_addr rfl) ?_
        refine TF_y rfl rfl (Y_field_addr rfl) ?_
        refine TF_y rfl rfl (Y_load rfl rfl) ?_
        refine TF_anchor rfl ?_
        refine TL_pullk b ?_
        refine TL_call rfl rfl (refEpoch_spec (s := ⟨s.os, s.dn + 1⟩) e.order.cart hx.2.1 slk h65) ?_
        rintro _ _ ⟨rfl, rfl⟩
        refine TF_end GivesTo.g ?_
        refine TF_y rfl rfl (Y_ne rfl rfl) ?_
        refine TF_nil ?_
        refine T_if rfl (fun h42 => ?_) (fun h42 => ?_)
        · refine T_region ?_
          refine TL_y rfl rfl (Y_build rfl rfl) ?_
          refine TL_store rfl rfl rfl rfl rfl rfl ?_
          refine TL_y rfl rfl (Y_assign rfl) ?_
          refine TL_y rfl rfl (Y_assign rfl) ?_
          refine TL_nil ?_
          refine T_ret ?_
          refine thenS_ret ?_
          have hdo : doS s e = (⟨s.os, s.dn + 1⟩, ord0, false, 190) := by unfold doS; rw [if_neg (fun h => h hr), if_neg (by simp [h22])]; simp only [ht]; rw [if_pos h42]
          rw [hdo]
          refine RetQ.gives (slnil (A := none) (c := 0) (R := intR .i64)).lay ?_
          exact RetG_3 (.inl rfl) rfl (ResV.agg rfl rfl) (ResV.tmp rfl) (ResV.tmp rfl) GivesTo.g (⟨none, 0, A, c, rfl, rfl⟩)
        · refine T_skip ?_
          refine thenS_normal ?_
          refine T_seq ?_
          refine T_region ?_
          refine TL_y rfl rfl (Y_move rfl) ?_
          refine TL_y rfl rfl (Y_nil_check rfl) ?_
          refine TL_y rfl rfl (Y_field_addr rfl) ?_
          refine TL_y rfl rfl (Y_load rfl rfl) ?_
          refine TL_y rfl rfl (Y_len rfl) ?_
          refine TL_y rfl rfl (Y_ge rfl rfl) ?_
          refine TL_nil ?_
          refine T_if rfl (fun h49 => ?_) (fun h49 => ?_)
          · dsimp only at h49
            refine T_region ?_
            refine TL_y rfl rfl (Y_build rfl rfl) ?_
            refine TL_store rfl rfl rfl rfl rfl rfl ?_
            refine TL_y rfl rfl (Y_assign rfl) ?_
            refine TL_y rfl rfl (Y_assign rfl) ?_
            refine TL_nil ?_
            refine T_ret ?_
            refine thenS_ret ?_
            have hdo : doS s e = (⟨s.os, s.dn + 1⟩, ord0, false, 2) := by unfold doS; rw [if_neg (fun h => h hr), if_neg (by simp [h22])]; simp only [ht]; rw [if_neg h42, if_pos (by omega)]
            rw [hdo]
            refine RetQ.gives (slnil (A := none) (c := 0) (R := intR .i64)).lay ?_
            exact RetG_3 (.inl rfl) rfl (ResV.agg rfl rfl) (ResV.tmp rfl) (ResV.tmp rfl) GivesTo.g (⟨none, 0, A, c, rfl, rfl⟩)
          · dsimp only at h49
            refine T_skip ?_
            refine thenS_normal ?_
            refine T_region_draw _ [0, 1, 3, 7, 15, 31, 0, 64, 192, 0, 512, 1536, 0, 4096, 12288, 0, 32768, 98304, 262143, 0, 1048575] [] [(0, true), (1, true), (2, true), (3, true), (4, true), (5, true), (6, true), (7, true), (8, true), (9, true), (10, true), (11, true), (12, true), (13, true), (14, true), (15, true), (16, true), (17, true), (18, true), (19, false), (20, false)] (by kernel_rfl) (by decide +kernel) (Gives.refl _) ?_
            refine TF_y rfl rfl (Y_move rfl) ?_
            refine TF_y rfl rfl (Y_nil_check rfl) ?_
            refine TF_y rfl rfl (Y_field_addr rfl) ?_
            refine TF_y rfl rfl (Y_load rfl rfl) ?_
            refine TF_y rfl rfl (Y_len rfl) ?_
            refine TF_name 55 (v' := .int .i64 (s.os.length : Int)) rfl (rfl) ?_
            refine TF_y rfl rfl (Y_add rfl rfl (by omega)) ?_
            refine TF_y rfl rfl (Y_field_addr rfl) ?_
            refine TF_y rfl rfl (Y_field_addr rfl) ?_
            refine TF_y rfl rfl (Y_load rfl rfl) ?_
            refine TF_y rfl rfl (Y_field_addr rfl) ?_
            refine TF_y rfl rfl (Y_field_addr rfl) ?_
            refine TF_y rfl rfl (Y_load rfl rfl) ?_
            refine TF_y rfl rfl (Y_field_addr rfl) ?_
            refine TF_y rfl rfl (Y_field_addr rfl) ?_
            refine TF_y rfl rfl (Y_load rfl rfl) ?_
            refine TF_y rfl rfl (Y_field_addr rfl) ?_
            refine TF_y rfl rfl (Y_field_addr rfl) ?_
            refine TF_y rfl rfl (Y_load rfl rfl) ?_
            refine TF_y rfl rfl (Y_build rfl rfl) ?_
            refine TF_name 69 (v' := ordV (newS s.os e.order) (A0, c0)) rfl (rfl) ?_
            refine TF_anchor rfl ?_
            refine TL_alloc rfl rfl ?_
            intro b9
            refine TF_end GivesTo.g ?_
            refine TF_anchor rfl ?_
            refine TL_store rfl rfl rfl rfl rfl rfl ?_
            refine TF_end GivesTo.g ?_
            refine TF_nil ?_
            refine T_rd [0, 0, 0, 4, 12, 28, 62, 0, 128, 510, 1023, 2047, 4095] (by kernel_rfl) (by decide +kernel) ?_
            refine RD_pair 1 8 (by decide) ?_ ?_
            · refine RD_pair 6 8 (by decide) ?_ ?_
              · refine RD_leaf (rfC b A c ⟨s.os, s.dn + 1⟩ :: cells b9 (ordC (newS s.os e.order) (A0, c0)) 29 :: []) [0, 0, 0, 4, 12, 28, 62, 0, 254, 510, 1023, 2047, 4095] [12] [(0, true), (2, true), (3, true), (4, true), (5, true), (7, true), (1, false), (6, false), (8, false), (9, false), (10, true), (11, true), (12, false)] (by decide +kernel) GivesTo.g ?_
                refine TF_y rfl rfl (Y_move rfl) ?_
                refine TF_y rfl rfl (Y_move rfl) ?_
                refine TF_y rfl rfl (Y_nil_check rfl) ?_
                refine TF_y rfl rfl (Y_field_addr rfl) ?_
                refine TF_y rfl rfl (Y_load rfl rfl) ?_
                refine TF_y rfl rfl (Y_load_agg rfl rfl) ?_
                refine TF_anchor rfl ?_
                refine TL_build_slice rfl rfl rfl rfl rfl rfl ?_
                intro b71
                refine TL_osl (k := 0) ordR [] (Knows.const fun M => rfl) rfl (by simp) ?_
                refine TL_name 71 (v' := .slice (some ⟨b71, 0, none⟩) ([] : List OrdD).length 0) rfl rfl ?_
                refine TF_end GivesTo.g ?_
                refine TF_anchor rfl ?_
                refine TL_append rfl rfl rfl rfl rfl slk (by simp only [List.length_nil]; omega) ?_
                intro A76 c76
                simp only [List.nil_append]
                refine TF_end GivesTo.g ?_
                refine TF_anchor rfl ?_
                refine TL_build_slice rfl rfl rfl rfl rfl rfl ?_
                intro b78
                refine TL_osl (k := 1) ordR [newS s.os e.order] (cells_one (ord_rep slk hno)) rfl (by decide) ?_
                refine TL_freeze_osl ?_
                refine TL_name 78 (v' := .slice (some ⟨b78, 0, none⟩) [newS s.os e.order].length 1) rfl rfl ?_
                refine TF_end GivesTo.g ?_
                refine TF_anchor rfl ?_
                refine TL_append rfl rfl rfl rfl rfl slk (by simp only [List.length_cons, List.length_nil]; omega) ?_
                intro A79 c79
                refine TL_freeze_osl ?_
                refine TF_end GivesTo.g ?_
                refine TF_y rfl rfl (Y_nil_check rfl) ?_
                refine TF_y rfl rfl (Y_field_addr rfl) ?_
                refine TF_anchor rfl ?_
                refine TL_store rfl rfl rfl rfl rfl rfl ?_
                refine TF_end_tail rfl ?_
                refine TF_nil ?_
                refine thenS_normal ?_
                refine T_region ?_
                refine TL_y rfl rfl (Y_load_agg rfl rfl) ?_
                refine TL_store rfl rfl rfl rfl rfl rfl ?_
                refine TL_y rfl rfl (Y_assign rfl) ?_
                refine TL_y rfl rfl (Y_assign rfl) ?_
                refine TL_nil ?_
                refine T_ret ?_
                have hdo : doS s e = (⟨s.os ++ [newS s.os e.order], s.dn + 1⟩, newS s.os e.order, true, 0) := by unfold doS; rw [if_neg (fun h => h hr), if_neg (by simp [h22])]; simp only [ht]; rw [if_neg h42, if_neg (by omega)]
                rw [hdo]
                dsimp only [newS, rfC]
                exact RetG_3 (.inl rfl) rfl (ResV.agg rfl rfl) (ResV.tmp rfl) (ResV.tmp rfl) GivesTo.g (⟨A0, c0, A79, c79, rfl, rfl⟩)
              · refine RD_leaf (rfC b A c ⟨s.os, s.dn + 1⟩ :: cells b9 (ordC (newS s.os e.order) (A0, c0)) 29 :: []) [0, 0, 0, 4, 12, 28, 446, 0, 130, 510, 1023, 2047, 4095] [12] [(0, true), (2, true), (3, true), (4, true), (5, true), (7, true), (1, false), (8, false), (6, false), (9, false), (10, true), (11, true), (12, false)] (by decide +kernel) GivesTo.g ?_
                refine TF_y rfl rfl (Y_move rfl) ?_
                refine TF_y rfl rfl (Y_move rfl) ?_
                refine TF_y rfl rfl (Y_nil_check rfl) ?_
                refine TF_y rfl rfl (Y_field_addr rfl) ?_
                refine TF_y rfl rfl (Y_load rfl rfl) ?_
                refine TF_y rfl rfl (Y_load_agg rfl rfl) ?_
                refine TF_anchor rfl ?_
                refine TL_build_slice rfl rfl rfl rfl rfl rfl ?_
                intro b71
                refine TL_osl (k := 0) ordR [] (Knows.const fun M => rfl) rfl (by simp) ?_
                refine TL_name 71 (v' := .slice (some ⟨b71, 0, none⟩) ([] : List OrdD).length 0) rfl rfl ?_
                refine TF_end GivesTo.g ?_
                refine TF_anchor rfl ?_
                refine TL_build_slice rfl rfl rfl rfl rfl rfl ?_
                intro b78
                refine TL_osl (k := 1) ordR [newS s.os e.order] (cells_one (ord_rep slk hno)) rfl (by decide) ?_
                refine TL_freeze_osl ?_
                refine TL_name 78 (v' := .slice (some ⟨b78, 0, none⟩) [newS s.os e.order].length 1) rfl rfl ?_
                refine TF_end GivesTo.g ?_
                refine TF_anchor rfl ?_
                refine TL_append rfl rfl rfl rfl rfl slk (by simp only [List.length_nil]; omega) ?_
                intro A76 c76
                simp only [List.nil_append]
                refine TF_end GivesTo.g ?_
                refine TF_anchor rfl ?_
                refine TL_append rfl rfl rfl rfl rfl slk (by simp only [List.length_cons, List.length_nil]; omega) ?_
                intro A79 c79
                refine TL_freeze_osl ?_
                refine TF_end GivesTo.g ?_
                refine TF_y rfl rfl (Y_nil_check rfl) ?_
                refine TF_y rfl rfl (Y_field_addr rfl) ?_
                refine TF_anchor rfl ?_
                refine TL_store rfl rfl rfl rfl rfl rfl ?_
                refine TF_end_tail rfl ?_
                refine TF_nil ?_
                refine thenS_normal ?_
                refine T_region ?_
                refine TL_y rfl rfl (Y_load_agg rfl rfl) ?_
                refine TL_store rfl rfl rfl rfl rfl rfl ?_
                refine TL_y rfl rfl (Y_assign rfl) ?_
                refine TL_y rfl rfl (Y_assign rfl) ?_
                refine TL_nil ?_
                refine T_ret ?_
                have hdo : doS s e = (⟨s.os ++ [newS s.os e.order], s.dn + 1⟩, newS s.os e.order, true, 0) := by unfold doS; rw [if_neg (fun h => h hr), if_neg (by simp [h22])]; simp only [ht]; rw [if_neg h42, if_neg (by omega)]
                rw [hdo]
                dsimp only [newS, rfC]
                exact RetG_3 (.inl rfl) rfl (ResV.agg rfl rfl) (ResV.tmp rfl) (ResV.tmp rfl) GivesTo.g (⟨A0, c0, A79, c79, rfl, rfl⟩)
            · refine RD_leaf (rfC b A c ⟨s.os, s.dn + 1⟩ :: cells b9 (ordC (newS s.os e.order) (A0, c0)) 29 :: []) [0, 384, 0, 4, 12, 28, 446, 0, 128, 510, 1023, 2047, 4095] [12] [(0, true), (2, true), (3, true), (4, true), (5, true), (7, true), (8, false), (1, false), (6, false), (9, false), (10, true), (11, true), (12, false)] (by decide +kernel) GivesTo.g ?_
              refine TF_y rfl rfl (Y_move rfl) ?_
              refine TF_y rfl rfl (Y_move rfl) ?_
              refine TF_y rfl rfl (Y_nil_check rfl) ?_
              refine TF_y rfl rfl (Y_field_addr rfl) ?_
              refine TF_y rfl rfl (Y_load rfl rfl) ?_
              refine TF_y rfl rfl (Y_load_agg rfl rfl) ?_
              refine TF_anchor rfl ?_
              refine TL_build_slice rfl rfl rfl rfl rfl rfl ?_
              intro b78
              refine TL_osl (k := 1) ordR [newS s.os e.order] (cells_one (ord_rep slk hno)) rfl (by decide) ?_
              refine TL_freeze_osl ?_
              refine TL_name 78 (v' := .slice (some ⟨b78, 0, none⟩) [newS s.os e.order].length 1) rfl rfl ?_
              refine TF_end GivesTo.g ?_
              refine TF_anchor rfl ?_
              refine TL_build_slice rfl rfl rfl rfl rfl rfl ?_
              intro b71
              refine TL_osl (k := 0) ordR [] (Knows.const fun M => rfl) rfl (by simp) ?_
              refine TL_name 71 (v' := .slice (some ⟨b71, 0, none⟩) ([] : List OrdD).length 0) rfl rfl ?_
              refine TF_end GivesTo.g ?_
              refine TF_anchor rfl ?_
              refine TL_append rfl rfl rfl rfl rfl slk (by simp only [List.length_nil]; omega) ?_
              intro A76 c76
              simp only [List.nil_append]
              refine TF_end GivesTo.g ?_
              refine TF_anchor rfl ?_
              refine TL_append rfl rfl rfl rfl rfl slk (by simp only [List.length_cons, List.length_nil]; omega) ?_
              intro A79 c79
              refine TL_freeze_osl ?_
              refine TF_end GivesTo.g ?_
              refine TF_y rfl rfl (Y_nil_check rfl) ?_
              refine TF_y rfl rfl (Y_field_addr rfl) ?_
              refine TF_anchor rfl ?_
              refine TL_store rfl rfl rfl rfl rfl rfl ?_
              refine TF_end_tail rfl ?_
              refine TF_nil ?_
              refine thenS_normal ?_
              refine T_region ?_
              refine TL_y rfl rfl (Y_load_agg rfl rfl) ?_
              refine TL_store rfl rfl rfl rfl rfl rfl ?_
              refine TL_y rfl rfl (Y_assign rfl) ?_
              refine TL_y rfl rfl (Y_assign rfl) ?_
              refine TL_nil ?_
              refine T_ret ?_
              have hdo : doS s e = (⟨s.os ++ [newS s.os e.order], s.dn + 1⟩, newS s.os e.order, true, 0) := by unfold doS; rw [if_neg (fun h => h hr), if_neg (by simp [h22])]; simp only [ht]; rw [if_neg h42, if_neg (by omega)]
              rw [hdo]
              dsimp only [newS, rfC]
              exact RetG_3 (.inl rfl) rfl (ResV.agg rfl rfl) (ResV.tmp rfl) (ResV.tmp rfl) GivesTo.g (⟨A0, c0, A79, c79, rfl, rfl⟩)
end Go.SL
