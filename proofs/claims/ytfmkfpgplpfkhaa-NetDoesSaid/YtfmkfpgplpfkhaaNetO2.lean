/- Net: the document's Twice where the packet is there. -/
import Derived.Test.YtfmkfpgplpfkhaaNetO
import Derived.Test.YtfmkfpgplpfkhaaSlP
set_option linter.unusedVariables false
set_option linter.unusedSimpArgs false
namespace Go.SL
open Go Go.Proofs
theorem refTwiceN_some {L : List HP} {b : Nat} {s : NS} (k : Int) (hni : NI s) (h2 : s.last < 1152921504606846976) {i : Nat} {p : PackD} (hp : s.L[i]? = some p) (hi : idxN s.L k = (i : Int)) (hf : findN s.L k = some p) : Fn Try.prog 17 #[.pointer (some ⟨b, 0, none⟩), .int .i64 k] (rn b s :: L) (fun v L' => v = .tuple #[.int .i64 (twiceS s k).2.1, .int .i64 (twiceS s k).2.2] ∧ L' = rn b (twiceS s k).1 :: L) := by
  have hlast := hni.last
  have hpk := packOk_of hni (List.mem_of_getElem? hp)
  have hlt := (List.getElem?_eq_some_iff.1 hp).1
  refine Fn_enter Try.func17 rfl rfl rfl rfl ?_
  refine T_region ?_
  refine TL_y rfl rfl (Y_assign rfl) ?_
  refine TL_y rfl rfl (Y_assign rfl) ?_
  refine TL_nil ?_
  refine T_region ?_
  refine TL_y rfl rfl (Y_move rfl) ?_
  refine TL_y rfl rfl (Y_move rfl) ?_
  refine TL_call rfl rfl (refFindN_spec k) ?_
  rintro _ _ ⟨rfl, rfl⟩
  rw [hi]
  refine TL_y rfl rfl (Y_assign rfl) ?_
  refine TL_nil ?_
  refine T_seq ?_
  refine T_region ?_
  refine TL_y rfl rfl (Y_move rfl) ?_
  refine TL_y rfl rfl (Y_lt rfl rfl) ?_
  refine TL_name 11 (v' := .bool false) rfl (congrArg Value.bool (decide_eq_false (by omega))) ?_
  refine TL_nil ?_
  refine T_cond_false rfl ?_
  refine T_skip ?_
  refine thenS_normal ?_
  refine T_rn fun A c => ?_
  refine T_addr_n (sln (A := A) (c := c)) hp fun bq oq eq => ?_
  subst eq
  refine T_rd [0, 0, 2, 6, 14, 0, 62, 126, 254, 0, 512, 1536, 3584, 0, 15872, 32256, 65024, 0, 131072, 393216, 917504, 0, 4063232, 8257536, 16646144, 33554431, 67108863, 67108863, 268435455, 536870911] (by kernel_rfl) (by decide +kernel) ?_
  refine RD_pair 26 27 (by decide) ?_ ?_
  · refine RD_leaf (cells b [.int .i64 s.nodes, .slice (some ⟨bq, oq, none⟩) s.L.length c, .int .i64 s.last] 81 :: osl packR 36 (some ⟨bq, oq, none⟩) c s.L :: []) [0, 0, 2, 6, 14, 0, 62, 126, 254, 0, 512, 1536, 3584, 0, 15872, 32256, 65024, 0, 131072, 393216, 917504, 0, 4063232, 8257536, 16646144, 33554431, 67108863, 134217727, 268435455, 536870911] [25, 26, 27, 28, 29] [(0, true), (1, true), (2, true), (3, true), (4, true), (5, true), (6, true), (7, true), (8, true), (9, true), (10, true), (11, true), (12, true), (13, true), (14, true), (15, true), (16, true), (17, true), (18, true), (19, true), (20, true), (21, true), (22, true), (23, true), (24, true), (25, false), (26, false), (27, false), (28, false), (29, false)] (by decide +kernel) GivesTo.g ?_
    refine TF_y rfl rfl (Y_move rfl) ?_
    refine TF_y rfl rfl (Y_move rfl) ?_
    refine TF_y rfl rfl (Y_nil_check rfl) ?_
    refine TF_y rfl rfl (Y_field_addr rfl) ?_
    refine TF_y rfl rfl (Y_load rfl rfl) ?_
    refine TF_y rfl rfl (Y_move rfl) ?_
    refine TF_y rfl rfl (Y_index_n (R := packR) (xs := s.L) rfl rfl rfl hp) ?_
    refine TF_y rfl rfl (Y_field_addr2 rfl) ?_
    refine TF_y rfl rfl (Y_load_n (R := packR) (c := c) (xs := s.L) rfl sln hp rfl) ?_
    refine TF_y rfl rfl (Y_move rfl) ?_
    refine TF_y rfl rfl (Y_nil_check rfl) ?_
    refine TF_y rfl rfl (Y_field_addr rfl) ?_
    refine TF_y rfl rfl (Y_load rfl rfl) ?_
    refine TF_y rfl rfl (Y_move rfl) ?_
    refine TF_y rfl rfl (Y_index_n (R := packR) (xs := s.L) rfl rfl rfl hp) ?_
    refine TF_y rfl rfl (Y_field_addr2 rfl) ?_
    refine TF_y rfl rfl (Y_load_n (R := packR) (c := c) (xs := s.L) rfl sln hp rfl) ?_
    refine TF_y rfl rfl (Y_move rfl) ?_
    refine TF_y rfl rfl (Y_nil_check rfl) ?_
    refine TF_y rfl rfl (Y_field_addr rfl) ?_
    refine TF_y rfl rfl (Y_load rfl rfl) ?_
    refine TF_y rfl rfl (Y_move rfl) ?_
    refine TF_y rfl rfl (Y_index_n (R := packR) (xs := s.L) rfl rfl rfl hp) ?_
    refine TF_y rfl rfl (Y_field_addr2 rfl) ?_
    refine TF_y rfl rfl (Y_load_n (R := packR) (c := c) (xs := s.L) rfl sln hp rfl) ?_
    refine TF_anchor rfl ?_
    refine TL_gives (rn_close (A := some ⟨bq, oq, none⟩) (c := c) b s) ?_
    refine TL_call rfl rfl (refSendN_spec p.frm p.to_ p.body hni.len ⟨hlast.1, h2⟩ ⟨show intIn .i64 (s.last + 1) from i64In_mk (by omega), hpk.2⟩) ?_
    rintro _ _ ⟨rfl, rfl⟩
    refine TF_end_tail rfl ?_
    refine TF_anchor rfl ?_
    refine TL_y rfl rfl (Y_extract rfl rfl) ?_
    refine TF_end_tail rfl ?_
    refine TF_anchor rfl ?_
    refine TL_y rfl rfl (Y_extract rfl rfl) ?_
    refine TF_end_tail rfl ?_
    refine TF_anchor rfl ?_
    refine TL_y rfl rfl (Y_assign rfl) ?_
    refine TF_end_tail rfl ?_
    refine TF_anchor rfl ?_
    refine TL_y rfl rfl (Y_assign rfl) ?_
    refine TF_end_tail rfl ?_
    refine TF_nil ?_
    refine thenS_normal ?_
    refine T_ret ?_
    have hs : twiceS s k = sendS s p.frm p.to_ p.body := by unfold twiceS; rw [hf]
    rw [hs]
    exact RetG_2 (.inl rfl) rfl (ResV.tmp rfl) (ResV.tmp rfl) GivesTo.g (⟨rfl, rfl⟩)
  · refine RD_leaf (cells b [.int .i64 s.nodes, .slice (some ⟨bq, oq, none⟩) s.L.length c, .int .i64 s.last] 81 :: osl packR 36 (some ⟨bq, oq, none⟩) c s.L :: []) [0, 0, 2, 6, 14, 0, 62, 126, 254, 0, 512, 1536, 3584, 0, 15872, 32256, 65024, 0, 131072, 393216, 917504, 0, 4063232, 8257536, 16646144, 33554431, 201326591, 67108863, 268435455, 536870911] [25, 26, 27, 28, 29] [(0, true), (1, true), (2, true), (3, true), (4, true), (5, true), (6, true), (7, true), (8, true), (9, true), (10, true), (11, true), (12, true), (13, true), (14, true), (15, true), (16, true), (17, true), (18, true), (19, true), (20, true), (21, true), (22, true), (23, true), (24, true), (25, false), (27, false), (26, false), (28, false), (29, false)] (by decide +kernel) GivesTo.g ?_
    refine TF_y rfl rfl (Y_move rfl) ?_
    refine TF_y rfl rfl (Y_move rfl) ?_
    refine TF_y rfl rfl (Y_nil_check rfl) ?_
    refine TF_y rfl rfl (Y_field_addr rfl) ?_
    refine TF_y rfl rfl (Y_load rfl rfl) ?_
    refine TF_y rfl rfl (Y_move rfl) ?_
    refine TF_y rfl rfl (Y_index_n (R := packR) (xs := s.L) rfl rfl rfl hp) ?_
    refine TF_y rfl rfl (Y_field_addr2 rfl) ?_
    refine TF_y rfl rfl (Y_load_n (R := packR) (c := c) (xs := s.L) rfl sln hp rfl) ?_
    refine TF_y rfl rfl (Y_move rfl) ?_
    refine TF_y rfl rfl (Y_nil_check rfl) ?_
    refine TF_y rfl rfl (Y_field_addr rfl) ?_
    refine TF_y rfl rfl (Y_load rfl rfl) ?_
    refine TF_y rfl rfl (Y_move rfl) ?_
    refine TF_y rfl rfl (Y_index_n (R := packR) (xs := s.L) rfl rfl rfl hp) ?_
    refine TF_y rfl rfl (Y_field_addr2 rfl) ?_
    refine TF_y rfl rfl (Y_load_n (R := packR) (c := c) (xs := s.L) rfl sln hp rfl) ?_
    refine TF_y rfl rfl (Y_move rfl) ?_
    refine TF_y rfl rfl (Y_nil_check rfl) ?_
    refine TF_y rfl rfl (Y_field_addr rfl) ?_
    refine TF_y rfl rfl (Y_load rfl rfl) ?_
    refine TF_y rfl rfl (Y_move rfl) ?_
    refine TF_y rfl rfl (Y_index_n (R := packR) (xs := s.L) rfl rfl rfl hp) ?_
    refine TF_y rfl rfl (Y_field_addr2 rfl) ?_
    refine TF_y rfl rfl (Y_load_n (R := packR) (c := c) (xs := s.L) rfl sln hp rfl) ?_
    refine TF_anchor rfl ?_
    refine TL_gives (rn_close (A := some ⟨bq, oq, none⟩) (c := c) b s) ?_
    refine TL_call rfl rfl (refSendN_spec p.frm p.to_ p.body hni.len ⟨hlast.1, h2⟩ ⟨show intIn .i64 (s.last + 1) from i64In_mk (by omega), hpk.2⟩) ?_
    rintro _ _ ⟨rfl, rfl⟩
    refine TF_end_tail rfl ?_
    refine TF_anchor rfl ?_
    refine TL_y rfl rfl (Y_extract rfl rfl) ?_
    refine TF_end_tail rfl ?_
    refine TF_anchor rfl ?_
    refine TL_y rfl rfl (Y_extract rfl rfl) ?_
    refine TF_end_tail rfl ?_
    refine TF_anchor rfl ?_
    refine TL_y rfl rfl (Y_assign rfl) ?_
    refine TF_end_tail rfl ?_
    refine TF_anchor rfl ?_
    refine TL_y rfl rfl (Y_assign rfl) ?_
    refine TF_end_tail rfl ?_
    refine TF_nil ?_
    refine thenS_normal ?_
    refine T_ret ?_
    have hs : twiceS s k = sendS s p.frm p.to_ p.body := by unfold twiceS; rw [hf]
    rw [hs]
    exact RetG_2 (.inl rfl) rfl (ResV.tmp rfl) (ResV.tmp rfl) GivesTo.g (⟨rfl, rfl⟩)
theorem refTwiceN_spec {L : List HP} {b : Nat} {s : NS} (k : Int) (hni : NI s) (h2 : s.last < 1152921504606846976) : Fn Try.prog 17 #[.pointer (some ⟨b, 0, none⟩), .int .i64 k] (rn b s :: L) (fun v L' => v = .tuple #[.int .i64 (twiceS s k).2.1, .int .i64 (twiceS s k).2.2] ∧ L' = rn b (twiceS s k).1 :: L) := by
  rcases idx_case hni k with ⟨hi, hf⟩ | ⟨i, p, hp, hpk, hi, hf⟩
  · exact refTwiceN_none k hi hf
  · exact refTwiceN_some k hni h2 hp hi hf
end Go.SL
