/- What the laws of this claim need, together: the logic, data in memory, the walks of functions. -/
import Derived.Test.YtibejpgjgkeheaaPmD
import Derived.Test.YtibejpgjgkeheaaRows
import Derived.WalkKit
import Derived.JoinedCond
import Derived.Deep.CondSized
import Derived.Ground.Names2Prog
import Derived.Shelf.Slices.CompactI
set_option linter.unusedVariables false
set_option linter.unusedSimpArgs false
set_option linter.unusedVariables false
set_option linter.unusedSimpArgs false
namespace Go.SL
open Go Go.Proofs
instance : IsEx entryR (Option Addr × Nat) 5 entryC (fun e p => [sl (intR .i64) p.1 p.2 e.order.cut]) (fun e => orderOk' e.order) := ⟨_, _, rfl⟩
structure AnSt where
  i : Nat
  next : Int
theorem proposerAlone_walk {L : List HP} {A : Option Addr} {c : Nat} {l : List EntryD} (slot : Int) (hsl : intIn .i64 slot) (hk : SlK L entryR A c l) (hb : ∀ e ∈ l, cSeal e.order ≤ 140737488355000) (hl : l.length ≤ 281474976710656) : Fn Try.prog 10 #[.slice A l.length c, .int .i64 slot] L (fun v L' => v = .bool true ∧ L' = L) := by
  refine Fn_enter Try.func10 rfl rfl rfl rfl ?_
  refine T_gives hk.lay ?_
  refine T_region ?_
  refine TL_y rfl rfl (Y_assign rfl) ?_
  refine TL_nil ?_
  refine T_region ?_
  refine TL_call rfl rfl (prNew_ok (node := 0) (nodes := 1) (by decide) (by decide) _) ?_
  rintro _ _ ⟨b18, rfl, rfl⟩
  refine TL_y rfl rfl (Y_move rfl) ?_
  refine TL_y rfl rfl (Y_extract rfl rfl) ?_
  refine TL_y rfl rfl (Y_extract rfl rfl) ?_
  refine TL_y rfl rfl (Y_assign rfl) ?_
  refine TL_y rfl rfl (Y_assign rfl) ?_
  refine TL_nil ?_
  refine T_seq ?_
  refine T_region ?_
  refine TL_call rfl rfl (lives17_spec _) ?_
  rintro _ _ ⟨rfl, rfl⟩
  refine TL_name 21 (v' := .bool true) rfl (rfl) ?_
  refine TL_y rfl rfl (Y_not_t rfl) ?_
  refine TL_y rfl rfl (Y_move rfl) ?_
  refine TL_grun rfl rfl ?_
  refine TL_y rfl rfl (Y_move rfl) ?_
  refine TL_grun rfl rfl ?_
  refine TL_y rfl rfl (Y_ne rfl rfl) ?_
  refine TL_name 25 (v' := .bool false) rfl (congrArg Value.bool (decide_eq_false (by decide))) ?_
  refine TL_y rfl rfl (Y_pick_f rfl rfl) ?_
  refine TL_y rfl rfl (Y_move rfl) ?_
  refine TL_grun rfl rfl ?_
  refine TL_y rfl rfl (Y_move rfl) ?_
  refine TL_grun rfl rfl ?_
  refine TL_y rfl rfl (Y_equal rfl rfl (EqIs.ptr_nil)) ?_
  refine TL_name 29 (v' := .bool false) rfl (by simp) ?_
  refine TL_y rfl rfl (Y_pick_f rfl rfl) ?_
  refine TL_nil ?_
  refine T_cond_false rfl ?_
  refine T_skip ?_
  refine thenS_normal ?_
  refine T_seq ?_
  refine T_region ?_
  refine TL_y rfl rfl (Y_move rfl) ?_
  refine TL_y rfl rfl (Y_build rfl rfl) ?_
  refine TL_y rfl rfl (Y_move rfl) ?_
  refine TL_pullk b18 ?_
  refine TL_call rfl rfl (prStart_spec (p := ppNew 0 1) (0, 0) slot) ?_
  rintro _ _ ⟨A35, c35, rfl, rfl⟩
  refine TL_y rfl rfl (Y_move rfl) ?_
  refine TL_y rfl rfl (Y_extract rfl rfl) ?_
  refine TL_y rfl rfl (Y_extract rfl rfl) ?_
  refine TL_y rfl rfl (Y_assign rfl) ?_
  refine TL_y rfl rfl (Y_assign rfl) ?_
  refine TL_nil ?_
  have hae := al_e slot
  refine T_region ?_
  refine TL_y rfl rfl (Y_move rfl) ?_
  refine TL_y rfl rfl (Y_ne rfl rfl) ?_
  refine TL_nil ?_
  refine T_if rfl (fun h39 => ?_) (fun h39 => ?_)
  · have hbad : slot < 0 ∨ 2147483647 < slot := Classical.byContradiction fun k => h39 (by rw [hae, if_neg k])
    refine T_region ?_
    refine TL_y rfl rfl (Y_move rfl) ?_
    refine TL_y rfl rfl (Y_lt rfl rfl) ?_
    refine TL_y rfl rfl (Y_move rfl) ?_
    refine TL_splitd 42 rfl (fun h42 => ?_) (fun h42 => ?_)
    · refine TL_gskip rfl rfl rfl rfl ?_
      refine TL_gskip rfl rfl rfl rfl ?_
      refine TL_y rfl rfl (Y_pick_t rfl rfl) ?_
      refine TL_y rfl rfl (Y_assign rfl) ?_
      refine TL_nil ?_
      refine T_ret ?_
      refine thenS_ret ?_
      exact RetG_1 (.inl rfl) rfl (ResV.tmp rfl) GivesTo.g (⟨rfl, rfl⟩)
    · refine TL_grun rfl rfl ?_
      refine TL_y rfl rfl (Y_move rfl) ?_
      refine TL_grun rfl rfl ?_
      refine TL_y rfl rfl (Y_gt rfl rfl) ?_
      refine TL_name 44 (v' := .bool true) rfl (congrArg Value.bool (decide_eq_true (by omega))) ?_
      refine TL_y rfl rfl (Y_pick_f rfl rfl) ?_
      refine TL_y rfl rfl (Y_assign rfl) ?_
      refine TL_nil ?_
      refine T_ret ?_
      refine thenS_ret ?_
      exact RetG_1 (.inl rfl) rfl (ResV.tmp rfl) GivesTo.g (⟨rfl, rfl⟩)
  · have hs0 : startE (ppNew 0 1) (0, 0) slot = 0 := Classical.not_not.1 h39
    have hok := startE_0 hs0
    rw [al_s hs0]
    refine T_skip ?_
    refine thenS_normal ?_
    refine T_region ?_
    refine TL_y rfl rfl (Y_build rfl rfl) ?_
    refine TL_alloc rfl rfl ?_
    intro b9
    refine TL_store rfl rfl rfl rfl rfl rfl ?_
    refine TL_nil ?_
    refine T_region_draw (cells b9 [.bool true, .string ⟨#[]⟩, .string ⟨#[]⟩, .int .i64 0, .slice none 0 0] 27 :: []) [0, 0, 2, 0, 0, 30, 63] [] [(0, true), (1, true), (3, true), (4, true), (2, false), (5, true), (6, false)] (by kernel_rfl) (by decide +kernel) GivesTo.g ?_
    refine TF_y rfl rfl (Y_move rfl) ?_
    refine TF_y rfl rfl (Y_move rfl) ?_
    refine TF_y rfl rfl (Y_move rfl) ?_
    refine TF_y rfl rfl (Y_load_agg rfl rfl) ?_
    refine TF_anchor rfl ?_
    refine TL_pullk b18 ?_
    refine TL_call rfl rfl (prBallot_spec) ?_
    rintro _ _ ⟨rfl, rfl⟩
    refine TF_end GivesTo.g ?_
    refine TF_y rfl rfl (Y_build rfl rfl) ?_
    refine TF_anchor rfl ?_
    refine TL_pullk b18 ?_
    refine TL_call rfl rfl (prOn_spec (p := al1 slot) (alM 2 slot) mP0 (alM_ok (by decide) ⟨hok.1, hok.2.1⟩) (msgK_nil rfl rfl rfl rfl) (show (260 : Nat) ≤ 140737488355328 by decide)) ?_
    rintro _ _ ⟨A53, c53, B53, d53, rfl, rfl⟩
    rw [al_prom ⟨hok.1, hok.2.1⟩]
    refine TF_end GivesTo.g ?_
    refine TF_nil ?_
    refine T_region ?_
    refine TL_y rfl rfl (Y_move rfl) ?_
    refine TL_y rfl rfl (Y_assign rfl) ?_
    refine TL_nil ?_
    refine T_seq ?_
    refine T_region ?_
    refine TL_y rfl rfl (Y_assign rfl) ?_
    refine TL_nil ?_
    refine T_block ?_
    refine T_loopK (σ := AnSt) [0, 5, 9] (fun g => g.i ≤ l.length ∧ 0 ≤ g.next ∧ g.next ≤ 2147483648) (fun g kv => (11, .int .i64 (g.i : Int)) :: (10, .int .i64 g.next) :: kv) (fun g => pr b18 (al2 slot g.next) :: cells b9 (entryC noopE (none, 0)) 27 :: sl entryR A c l :: L) (fun g => l.length - g.i) (⟨0, slot⟩) rfl (⟨Nat.zero_le _, hok.1, by dsimp only; omega⟩) (GivesTo.g) (sub_cons rfl (sub_cons rfl (sub_cons rfl (sub_cons rfl (sub_cons rfl (sub_nil)))))) ?_
    rintro ⟨i, nx⟩ ⟨hil, hn1, hn2⟩
    dsimp only at hil hn1 hn2 ⊢
    refine T_seq ?_
    refine T_region ?_
    refine TL_y rfl rfl (Y_move rfl) ?_
    refine TL_y rfl rfl (Y_move rfl) ?_
    refine TL_y rfl rfl (Y_len rfl) ?_
    refine TL_y rfl rfl (Y_lt rfl rfl) ?_
    refine TL_y rfl rfl (Y_move rfl) ?_
    refine TL_splitd 59 rfl (fun h59 => ?_) (fun h59 => ?_)
    · refine TL_grun rfl rfl ?_
      refine TL_y rfl rfl (Y_move rfl) ?_
      refine TL_grun rfl rfl ?_
      refine TL_y rfl rfl (Y_lt rfl rfl) ?_
      refine TL_y rfl rfl (Y_pick_t rfl rfl) ?_
      refine TL_nil ?_
      refine T_if rfl (fun h62 => ?_) (fun h62 => ?_)
      · refine T_skip ?_
        refine thenS_normal ?_
        refine T_seq ?_
        refine T_block ?_
        obtain ⟨e, he⟩ : ∃ e, l[i]? = some e := ⟨_, List.getElem?_eq_getElem (by omega)⟩
        have heb := hb e (List.mem_of_getElem? he)
        have hpe := al_propE slot nx e
        refine T_addr_n (sln (A := A) (c := c)) he fun bq oq eq => ?_
        subst eq
        refine T_region ?_
        refine TL_y rfl rfl (Y_move rfl) ?_
        refine TL_y rfl rfl (Y_move rfl) ?_
        refine TL_y rfl rfl (Y_move rfl) ?_
        refine TL_index_n rfl rfl rfl (rfl) ((sln (A := some ⟨bq, oq, none⟩) (c := c))) (he) ?_
        intro bn69 on69 hA69 hk69
        have hu69 := he
        refine TL_load_nx rfl rfl hk69 hu69 (fun _ => rfl) ?_
        intro p70 ok70
        simp only [List.cons_append, List.nil_append]
        refine TL_pullk b18 ?_
        refine TL_call rfl rfl (prPropo_spec (p := al2 slot nx) e ok70 slk heb) ?_
        rintro _ _ ⟨A71, c71, rfl, rfl⟩
        refine TL_y rfl rfl (Y_move rfl) ?_
        refine TL_y rfl rfl (Y_extract rfl rfl) ?_
        refine TL_y rfl rfl (Y_extract rfl rfl) ?_
        refine TL_y rfl rfl (Y_extract rfl rfl) ?_
        refine TL_y rfl rfl (Y_assign rfl) ?_
        refine TL_y rfl rfl (Y_assign rfl) ?_
        refine TL_y rfl rfl (Y_assign rfl) ?_
        refine TL_nil ?_
        refine T_seq ?_
        rcases al_ways slot nx e with ⟨hpe0, hnx⟩ | hpe1 | hpe2
        · have h0 : propO (al2 slot nx) e = [toM (accB (al2 slot nx) nx e) 0 0] := (by unfold propO; rw [if_pos hpe0, al_out])
          have h1 : propP (al2 slot nx) e = putP (al2 slot nx) nx e := (by unfold propP; rw [if_pos hpe0])
          rw [h0, h1]
          refine T_name 13 (v' := .int .i64 nx) rfl (by rw [if_pos hpe0]) ?_
          refine T_region ?_
          refine TL_y rfl rfl (Y_move rfl) ?_
          refine TL_y rfl rfl (Y_ne rfl rfl) ?_
          refine TL_name 76 (v' := .bool false) rfl (congrArg Value.bool (decide_eq_false (by omega))) ?_
          refine TL_nil ?_
          refine T_cond_false rfl ?_
          refine T_skip ?_
          refine thenS_normal ?_
          refine T_seq ?_
          refine T_addr_n (sln (A := A71) (c := c71)) (show [toM (accB (al2 slot nx) nx e) 0 0][0]? = some _ from rfl) fun bz oz ez => ?_
          subst ez
          refine T_rd [0, 0, 3, 7, 15, 31, 63, 127, 255, 511, 1023, 2047, 4095, 8191, 16383, 32767, 65535, 131071, 262143, 524287, 65535, 2097151, 4194303, 8388607, 16777215, 33554431, 67108863, 134217727, 16777215, 16777215, 822083583, 1895825407, 4294967295, 8589934591, 17179869183] (by kernel_rfl) (by decide +kernel) ?_
          refine RD_pair 27 31 (by decide) ?_ ?_
          · refine RD_leaf (sl entryR (some ⟨bq, oq, none⟩) c l :: osl msgR 44 (some ⟨bz, oz, none⟩) c71 [toM (accB (al2 slot nx) nx e) 0 0] :: []) [0, 0, 3, 7, 15, 31, 63, 127, 255, 511, 1023, 2047, 4095, 8191, 16383, 32767, 65535, 131071, 262143, 524287, 65535, 2097151, 4194303, 8388607, 16777215, 33554431, 67108863, 134217727, 16777215, 16777215, 822083583, 2147483647, 4294967295, 8589934591, 17179869183] [] [(0, true), (1, true), (2, true), (3, true), (4, true), (5, true), (6, true), (7, true), (8, true), (9, true), (10, true), (11, true), (12, true), (13, true), (14, true), (15, true), (16, true), (17, true), (18, true), (19, true), (20, true), (21, true), (22, true), (23, true), (24, true), (25, true), (26, true), (28, true), (29, true), (30, true), (27, false), (31, false), (32, false), (33, true), (34, true)] (by decide +kernel) GivesTo.g ?_
            refine TF_y rfl rfl (Y_move rfl) ?_
            refine TF_y rfl rfl (Y_move rfl) ?_
            refine TF_y rfl rfl (Y_ne rfl rfl) ?_
            refine TF_name 90 (v' := .bool false) rfl (congrArg Value.bool (decide_eq_false (by omega))) ?_
            refine TF_y rfl rfl (Y_move rfl) ?_
            refine TF_gy rfl rfl rfl rfl (Y_move rfl) ?_
            refine TF_gy rfl rfl rfl rfl (Y_len rfl) ?_
            refine TF_gy rfl rfl rfl rfl (Y_ne rfl rfl) ?_
            refine TF_name 94 (v' := .bool false) rfl (congrArg Value.bool (decide_eq_false (by simp))) ?_
            refine TF_y rfl rfl (Y_pick_f rfl rfl) ?_
            refine TF_y rfl rfl (Y_move rfl) ?_
            refine TF_gy rfl rfl rfl rfl (Y_move rfl) ?_
            refine TF_gy rfl rfl rfl rfl (Y_index_n (R := msgR) (xs := [toM (accB (al2 slot nx) nx e) 0 0]) (j := 0) rfl rfl rfl rfl) ?_
            refine TF_gy rfl rfl rfl rfl (Y_field_addr2 rfl) ?_
            refine TF_gy rfl rfl rfl rfl (Y_load_nx (xs := [toM (accB (al2 slot nx) nx e) 0 0]) (j := 0) (v := .int .i64 3) rfl (sln (c := c71)) rfl (fun _ ↦ rfl)) ?_
            refine TF_gy rfl rfl rfl rfl (Y_ne rfl rfl) ?_
            refine TF_name 101 (v' := .bool false) rfl (congrArg Value.bool (decide_eq_false (by decide))) ?_
            refine TF_y rfl rfl (Y_pick_f rfl rfl) ?_
            refine TF_y rfl rfl (Y_move rfl) ?_
            refine TF_gy rfl rfl rfl rfl (Y_move rfl) ?_
            refine TF_gy rfl rfl rfl rfl (Y_index_n (R := msgR) (xs := [toM (accB (al2 slot nx) nx e) 0 0]) (j := 0) rfl rfl rfl rfl) ?_
            refine TF_gy rfl rfl rfl rfl (Y_field_addr2 rfl) ?_
            refine TF_gy rfl rfl rfl rfl (Y_load_nx (xs := [toM (accB (al2 slot nx) nx e) 0 0]) (j := 0) (v := .int .i64 nx) rfl (sln (c := c71)) rfl (fun _ ↦ rfl)) ?_
            refine TF_gy rfl rfl rfl rfl (Y_move rfl) ?_
            refine TF_gy rfl rfl rfl rfl (Y_ne rfl rfl) ?_
            refine TF_name 109 (v' := .bool false) rfl (congrArg Value.bool (decide_eq_false (by simp))) ?_
            refine TF_y rfl rfl (Y_pick_f rfl rfl) ?_
            refine TF_y rfl rfl (Y_move rfl) ?_
            refine TF_gy rfl rfl rfl rfl (Y_move rfl) ?_
            refine TF_gy rfl rfl rfl rfl (Y_index_n (R := msgR) (xs := [toM (accB (al2 slot nx) nx e) 0 0]) (j := 0) rfl rfl rfl rfl) ?_
            refine TF_gy rfl rfl rfl rfl (Y_field_addr2 rfl) ?_
            refine TF_gy rfl rfl rfl rfl (Y_move rfl) ?_
            refine TF_gy rfl rfl rfl rfl (Y_move rfl) ?_
            refine TF_gy rfl rfl rfl rfl (Y_index_n (R := entryR) (xs := l) rfl rfl rfl he) ?_
            refine TF_anchor rfl ?_
            refine TL_grun rfl rfl ?_
            refine TL_load_nx (xs := [toM (accB (al2 slot nx) nx e) 0 0]) (j := 0) rfl rfl (sln (c := c71)) rfl (fun _ => rfl) ?_
            intro p115 ok115
            simp only [List.cons_append, List.nil_append]
            refine TF_end GivesTo.g ?_
            refine TF_anchor rfl ?_
            refine TL_grun rfl rfl ?_
            refine TL_load_nx (xs := l) (q := 0) rfl rfl (sln (c := c)) he (fun _ => rfl) ?_
            intro p119 ok119
            simp only [List.cons_append, List.nil_append]
            refine TF_end GivesTo.g ?_
            refine TF_anchor rfl ?_
            refine TL_grun rfl rfl ?_
            refine TL_call rfl rfl (sameEntry_spec e e (A := p115.cut.1) (c := p115.cut.2) (B := p119.1) (d := p119.2) sln sln) ?_
            rintro _ _ ⟨rfl, rfl⟩
            refine TL_name 120 (v' := .bool true) rfl (congrArg Value.bool (by simp)) ?_
            refine TF_end GivesTo.g ?_
            refine TF_gy rfl rfl rfl rfl (Y_not_t rfl) ?_
            refine TF_y rfl rfl (Y_pick_f rfl rfl) ?_
            refine TF_nil ?_
            refine thenS_normal ?_
            refine T_cond_false rfl ?_
            refine T_skip ?_
            refine thenS_normal ?_
            refine T_region ?_
            refine TL_y rfl rfl (Y_move rfl) ?_
            refine TL_y rfl rfl (Y_add rfl rfl (by omega)) ?_
            refine TL_y rfl rfl (Y_assign rfl) ?_
            refine TL_nil ?_
            refine T_region_draw (cells b9 (entryC noopE (none, 0)) 27 :: []) [0, 0, 2, 0, 0, 30, 63, 127, 255, 255, 511, 2047] [] [(0, true), (1, true), (3, true), (4, true), (2, false), (5, true), (6, false), (7, true), (8, true), (9, true), (10, true), (11, true)] (by kernel_rfl) (by decide +kernel) GivesTo.g ?_
            refine TF_y rfl rfl (Y_move rfl) ?_
            refine TF_y rfl rfl (Y_move rfl) ?_
            refine TF_y rfl rfl (Y_move rfl) ?_
            refine TF_y rfl rfl (Y_load_agg rfl rfl) ?_
            refine TF_anchor rfl ?_
            refine TL_pullk b18 ?_
            refine TL_call rfl rfl (prBallot_spec) ?_
            rintro _ _ ⟨rfl, rfl⟩
            refine TF_end GivesTo.g ?_
            refine TF_y rfl rfl (Y_build rfl rfl) ?_
            refine TF_anchor rfl ?_
            refine TL_pullk b18 ?_
            refine TL_call rfl rfl (prOn_spec (p := putP (al2 slot nx) nx e) (alM 4 nx) mP0 (alM_ok (by decide) ⟨hn1, hnx⟩) (msgK_nil rfl rfl rfl rfl) (show (260 : Nat) ≤ 140737488355328 by decide)) ?_
            rintro _ _ ⟨A132, c132, B132, d132, rfl, rfl⟩
            rw [al_acc e ⟨hn1, hnx⟩]
            refine TF_end GivesTo.g ?_
            refine TF_y rfl rfl (Y_move rfl) ?_
            refine TF_y rfl rfl (Y_extract rfl rfl) ?_
            refine TF_y rfl rfl (Y_extract rfl rfl) ?_
            refine TF_y rfl rfl (Y_assign rfl) ?_
            refine TF_y rfl rfl (Y_assign rfl) ?_
            refine TF_nil ?_
            refine T_addr_n (sln (A := B132) (c := d132)) (show [(⟨nx, (1, 0), e⟩ : VotedD)][0]? = some _ from rfl) fun by_ oy ey => ?_
            subst ey
            refine T_rd [0, 1, 3, 7, 15, 31, 63, 127, 15, 511, 1023, 2047, 4095, 8191, 16383, 32767, 4095, 4095, 200703, 462847, 1048575, 2097151, 4194303] (by kernel_rfl) (by decide +kernel) ?_
            refine RD_pair 15 19 (by decide) ?_ ?_
            · refine RD_leaf (sl entryR (some ⟨bq, oq, none⟩) c l :: osl votedR 50 (some ⟨by_, oy, none⟩) d132 [(⟨nx, (1, 0), e⟩ : VotedD)] :: []) [0, 1, 3, 7, 15, 31, 63, 127, 15, 511, 1023, 2047, 4095, 8191, 16383, 32767, 4095, 4095, 200703, 524287, 1048575, 2097151, 4194303] [] [(0, true), (1, true), (2, true), (3, true), (4, true), (5, true), (6, true), (7, true), (8, true), (9, true), (10, true), (11, true), (12, true), (13, true), (14, true), (16, true), (17, true), (18, true), (15, false), (19, false), (20, false), (21, true), (22, true)] (by decide +kernel) GivesTo.g ?_
              refine TF_y rfl rfl (Y_move rfl) ?_
              refine TF_y rfl rfl (Y_len rfl) ?_
              refine TF_y rfl rfl (Y_ne rfl rfl) ?_
              refine TF_name 137 (v' := .bool false) rfl (congrArg Value.bool (decide_eq_false (by simp))) ?_
              refine TF_y rfl rfl (Y_move rfl) ?_
              refine TF_gy rfl rfl rfl rfl (Y_move rfl) ?_
              refine TF_gy rfl rfl rfl rfl (Y_index_n (R := votedR) (xs := [(⟨nx, (1, 0), e⟩ : VotedD)]) (j := 0) rfl rfl rfl rfl) ?_
              refine TF_gy rfl rfl rfl rfl (Y_field_addr2 rfl) ?_
              refine TF_gy rfl rfl rfl rfl (Y_load_nx (xs := [(⟨nx, (1, 0), e⟩ : VotedD)]) (j := 0) (v := .int .i64 nx) rfl (sln (c := d132)) rfl (fun _ ↦ rfl)) ?_
              refine TF_gy rfl rfl rfl rfl (Y_move rfl) ?_
              refine TF_gy rfl rfl rfl rfl (Y_ne rfl rfl) ?_
              refine TF_name 144 (v' := .bool false) rfl (congrArg Value.bool (decide_eq_false (by simp))) ?_
              refine TF_y rfl rfl (Y_pick_f rfl rfl) ?_
              refine TF_y rfl rfl (Y_move rfl) ?_
              refine TF_gy rfl rfl rfl rfl (Y_move rfl) ?_
              refine TF_gy rfl rfl rfl rfl (Y_index_n (R := votedR) (xs := [(⟨nx, (1, 0), e⟩ : VotedD)]) (j := 0) rfl rfl rfl rfl) ?_
              refine TF_gy rfl rfl rfl rfl (Y_field_addr2 rfl) ?_
              refine TF_gy rfl rfl rfl rfl (Y_move rfl) ?_
              refine TF_gy rfl rfl rfl rfl (Y_move rfl) ?_
              refine TF_gy rfl rfl rfl rfl (Y_index_n (R := entryR) (xs := l) rfl rfl rfl he) ?_
              refine TF_anchor rfl ?_
              refine TL_grun rfl rfl ?_
              refine TL_load_nx (xs := [(⟨nx, (1, 0), e⟩ : VotedD)]) (j := 0) rfl rfl (sln (c := d132)) rfl (fun _ => rfl) ?_
              intro p150 ok150
              simp only [List.cons_append, List.nil_append]
              refine TF_end GivesTo.g ?_
              refine TF_anchor rfl ?_
              refine TL_grun rfl rfl ?_
              refine TL_load_nx (xs := l) (q := 0) rfl rfl (sln (c := c)) he (fun _ => rfl) ?_
              intro p154 ok154
              simp only [List.cons_append, List.nil_append]
              refine TF_end GivesTo.g ?_
              refine TF_anchor rfl ?_
              refine TL_grun rfl rfl ?_
              refine TL_call rfl rfl (sameEntry_spec e e (A := p150.1) (c := p150.2) (B := p154.1) (d := p154.2) sln sln) ?_
              rintro _ _ ⟨rfl, rfl⟩
              refine TL_name 155 (v' := .bool true) rfl (congrArg Value.bool (by simp)) ?_
              refine TF_end GivesTo.g ?_
              refine TF_gy rfl rfl rfl rfl (Y_not_t rfl) ?_
              refine TF_y rfl rfl (Y_pick_f rfl rfl) ?_
              refine TF_nil ?_
              refine thenS_normal ?_
              refine T_cond_false rfl ?_
              refine T_skip ?_
              refine inB_normal ?_
              refine thenS_normal ?_
              refine T_region_last ?_
              refine TL_y rfl rfl (Y_move rfl) ?_
              refine TL_y rfl rfl (Y_add rfl rfl (by omega)) ?_
              refine TL_name 64 (v' := .int .i64 ((i + 1 : Nat) : Int)) rfl (rfl) ?_
              refine TL_y rfl rfl (Y_assign rfl) ?_
              refine TL_nil ?_
              refine thenS_normal ?_
              exact ⟨⟨i + 1, nx + 1⟩, ⟨by simp only; omega, by simp only; omega, by simp only; omega⟩, by simp only; omega, holds_to (sub_cons rfl (sub_cons rfl (sub_cons rfl (sub_cons rfl (sub_cons rfl (sub_nil)))))) GivesTo.g⟩
            · refine RD_leaf (sl entryR (some ⟨bq, oq, none⟩) c l :: osl votedR 50 (some ⟨by_, oy, none⟩) d132 [(⟨nx, (1, 0), e⟩ : VotedD)] :: []) [0, 1, 3, 7, 15, 31, 63, 127, 15, 511, 1023, 2047, 4095, 8191, 16383, 1015807, 4095, 4095, 200703, 462847, 1048575, 2097151, 4194303] [] [(0, true), (1, true), (2, true), (3, true), (4, true), (5, true), (6, true), (7, true), (8, true), (9, true), (10, true), (11, true), (12, true), (13, true), (14, true), (16, true), (17, true), (18, true), (19, false), (15, false), (20, false), (21, true), (22, true)] (by decide +kernel) GivesTo.g ?_
              refine TF_y rfl rfl (Y_move rfl) ?_
              refine TF_y rfl rfl (Y_len rfl) ?_
              refine TF_y rfl rfl (Y_ne rfl rfl) ?_
              refine TF_name 137 (v' := .bool false) rfl (congrArg Value.bool (decide_eq_false (by simp))) ?_
              refine TF_y rfl rfl (Y_move rfl) ?_
              refine TF_gy rfl rfl rfl rfl (Y_move rfl) ?_
              refine TF_gy rfl rfl rfl rfl (Y_index_n (R := votedR) (xs := [(⟨nx, (1, 0), e⟩ : VotedD)]) (j := 0) rfl rfl rfl rfl) ?_
              refine TF_gy rfl rfl rfl rfl (Y_field_addr2 rfl) ?_
              refine TF_gy rfl rfl rfl rfl (Y_load_nx (xs := [(⟨nx, (1, 0), e⟩ : VotedD)]) (j := 0) (v := .int .i64 nx) rfl (sln (c := d132)) rfl (fun _ ↦ rfl)) ?_
              refine TF_gy rfl rfl rfl rfl (Y_move rfl) ?_
              refine TF_gy rfl rfl rfl rfl (Y_ne rfl rfl) ?_
              refine TF_name 144 (v' := .bool false) rfl (congrArg Value.bool (decide_eq_false (by simp))) ?_
              refine TF_y rfl rfl (Y_pick_f rfl rfl) ?_
              refine TF_y rfl rfl (Y_move rfl) ?_
              refine TF_gy rfl rfl rfl rfl (Y_move rfl) ?_
              refine TF_gy rfl rfl rfl rfl (Y_index_n (R := votedR) (xs := [(⟨nx, (1, 0), e⟩ : VotedD)]) (j := 0) rfl rfl rfl rfl) ?_
              refine TF_gy rfl rfl rfl rfl (Y_field_addr2 rfl) ?_
              refine TF_gy rfl rfl rfl rfl (Y_move rfl) ?_
              refine TF_gy rfl rfl rfl rfl (Y_move rfl) ?_
              refine TF_gy rfl rfl rfl rfl (Y_index_n (R := entryR) (xs := l) rfl rfl rfl he) ?_
              refine TF_anchor rfl ?_
              refine TL_grun rfl rfl ?_
              refine TL_load_nx (xs := l) (q := 0) rfl rfl (sln (c := c)) he (fun _ => rfl) ?_
              intro p154 ok154
              simp only [List.cons_append, List.nil_append]
              refine TF_end GivesTo.g ?_
              refine TF_anchor rfl ?_
              refine TL_grun rfl rfl ?_
              refine TL_load_nx (xs := [(⟨nx, (1, 0), e⟩ : VotedD)]) (j := 0) rfl rfl (sln (c := d132)) rfl (fun _ => rfl) ?_
              intro p150 ok150
              simp only [List.cons_append, List.nil_append]
              refine TF_end GivesTo.g ?_
              refine TF_anchor rfl ?_
              refine TL_grun rfl rfl ?_
              refine TL_call rfl rfl (sameEntry_spec e e (A := p150.1) (c := p150.2) (B := p154.1) (d := p154.2) sln sln) ?_
              rintro _ _ ⟨rfl, rfl⟩
              refine TL_name 155 (v' := .bool true) rfl (congrArg Value.bool (by simp)) ?_
              refine TF_end GivesTo.g ?_
              refine TF_gy rfl rfl rfl rfl (Y_not_t rfl) ?_
              refine TF_y rfl rfl (Y_pick_f rfl rfl) ?_
              refine TF_nil ?_
              refine thenS_normal ?_
              refine T_cond_false rfl ?_
              refine T_skip ?_
              refine inB_normal ?_
              refine thenS_normal ?_
              refine T_region_last ?_
              refine TL_y rfl rfl (Y_move rfl) ?_
              refine TL_y rfl rfl (Y_add rfl rfl (by omega)) ?_
              refine TL_name 64 (v' := .int .i64 ((i + 1 : Nat) : Int)) rfl (rfl) ?_
              refine TL_y rfl rfl (Y_assign rfl) ?_
              refine TL_nil ?_
              refine thenS_normal ?_
              exact ⟨⟨i + 1, nx + 1⟩, ⟨by simp only; omega, by simp only; omega, by simp only; omega⟩, by simp only; omega, holds_to (sub_cons rfl (sub_cons rfl (sub_cons rfl (sub_cons rfl (sub_cons rfl (sub_nil)))))) GivesTo.g⟩
          · refine RD_leaf (sl entryR (some ⟨bq, oq, none⟩) c l :: osl msgR 44 (some ⟨bz, oz, none⟩) c71 [toM (accB (al2 slot nx) nx e) 0 0] :: []) [0, 0, 3, 7, 15, 31, 63, 127, 255, 511, 1023, 2047, 4095, 8191, 16383, 32767, 65535, 131071, 262143, 524287, 65535, 2097151, 4194303, 8388607, 16777215, 33554431, 67108863, 4160749567, 16777215, 16777215, 822083583, 1895825407, 4294967295, 8589934591, 17179869183] [] [(0, true), (1, true), (2, true), (3, true), (4, true), (5, true), (6, true), (7, true), (8, true), (9, true), (10, true), (11, true), (12, true), (13, true), (14, true), (15, true), (16, true), (17, true), (18, true), (19, true), (20, true), (21, true), (22, true), (23, true), (24, true), (25, true), (26, true), (28, true), (29, true), (30, true), (31, false), (27, false), (32, false), (33, true), (34, true)] (by decide +kernel) GivesTo.g ?_
            refine TF_y rfl rfl (Y_move rfl) ?_
            refine TF_y rfl rfl (Y_move rfl) ?_
            refine TF_y rfl rfl (Y_ne rfl rfl) ?_
            refine TF_name 90 (v' := .bool false) rfl (congrArg Value.bool (decide_eq_false (by omega))) ?_
            refine TF_y rfl rfl (Y_move rfl) ?_
            refine TF_gy rfl rfl rfl rfl (Y_move rfl) ?_
            refine TF_gy rfl rfl rfl rfl (Y_len rfl) ?_
            refine TF_gy rfl rfl rfl rfl (Y_ne rfl rfl) ?_
            refine TF_name 94 (v' := .bool false) rfl (congrArg Value.bool (decide_eq_false (by simp))) ?_
            refine TF_y rfl rfl (Y_pick_f rfl rfl) ?_
            refine TF_y rfl rfl (Y_move rfl) ?_
            refine TF_gy rfl rfl rfl rfl (Y_move rfl) ?_
            refine TF_gy rfl rfl rfl rfl (Y_index_n (R := msgR) (xs := [toM (accB (al2 slot nx) nx e) 0 0]) (j := 0) rfl rfl rfl rfl) ?_
            refine TF_gy rfl rfl rfl rfl (Y_field_addr2 rfl) ?_
            refine TF_gy rfl rfl rfl rfl (Y_load_nx (xs := [toM (accB (al2 slot nx) nx e) 0 0]) (j := 0) (v := .int .i64 3) rfl (sln (c := c71)) rfl (fun _ ↦ rfl)) ?_
            refine TF_gy rfl rfl rfl rfl (Y_ne rfl rfl) ?_
            refine TF_name 101 (v' := .bool false) rfl (congrArg Value.bool (decide_eq_false (by decide))) ?_
            refine TF_y rfl rfl (Y_pick_f rfl rfl) ?_
            refine TF_y rfl rfl (Y_move rfl) ?_
            refine TF_gy rfl rfl rfl rfl (Y_move rfl) ?_
            refine TF_gy rfl rfl rfl rfl (Y_index_n (R := msgR) (xs := [toM (accB (al2 slot nx) nx e) 0 0]) (j := 0) rfl rfl rfl rfl) ?_
            refine TF_gy rfl rfl rfl rfl (Y_field_addr2 rfl) ?_
            refine TF_gy rfl rfl rfl rfl (Y_load_nx (xs := [toM (accB (al2 slot nx) nx e) 0 0]) (j := 0) (v := .int .i64 nx) rfl (sln (c := c71)) rfl (fun _ ↦ rfl)) ?_
            refine TF_gy rfl rfl rfl rfl (Y_move rfl) ?_
            refine TF_gy rfl rfl rfl rfl (Y_ne rfl rfl) ?_
            refine TF_name 109 (v' := .bool false) rfl (congrArg Value.bool (decide_eq_false (by simp))) ?_
            refine TF_y rfl rfl (Y_pick_f rfl rfl) ?_
            refine TF_y rfl rfl (Y_move rfl) ?_
            refine TF_gy rfl rfl rfl rfl (Y_move rfl) ?_
            refine TF_gy rfl rfl rfl rfl (Y_index_n (R := msgR) (xs := [toM (accB (al2 slot nx) nx e) 0 0]) (j := 0) rfl rfl rfl rfl) ?_
            refine TF_gy rfl rfl rfl rfl (Y_field_addr2 rfl) ?_
            refine TF_gy rfl rfl rfl rfl (Y_move rfl) ?_
            refine TF_gy rfl rfl rfl rfl (Y_move rfl) ?_
            refine TF_gy rfl rfl rfl rfl (Y_index_n (R := entryR) (xs := l) rfl rfl rfl he) ?_
            refine TF_anchor rfl ?_
            refine TL_grun rfl rfl ?_
            refine TL_load_nx (xs := l) (q := 0) rfl rfl (sln (c := c)) he (fun _ => rfl) ?_
            intro p119 ok119
            simp only [List.cons_append, List.nil_append]
            refine TF_end GivesTo.g ?_
            refine TF_anchor rfl ?_
            refine TL_grun rfl rfl ?_
            refine TL_load_nx (xs := [toM (accB (al2 slot nx) nx e) 0 0]) (j := 0) rfl rfl (sln (c := c71)) rfl (fun _ => rfl) ?_
            intro p115 ok115
            simp only [List.cons_append, List.nil_append]
            refine TF_end GivesTo.g ?_
            refine TF_anchor rfl ?_
            refine TL_grun rfl rfl ?_
            refine TL_call rfl rfl (sameEntry_spec e e (A := p115.cut.1) (c := p115.cut.2) (B := p119.1) (d := p119.2) sln sln) ?_
            rintro _ _ ⟨rfl, rfl⟩
            refine TL_name 120 (v' := .bool true) rfl (congrArg Value.bool (by simp)) ?_
            refine TF_end GivesTo.g ?_
            refine TF_gy rfl rfl rfl rfl (Y_not_t rfl) ?_
            refine TF_y rfl rfl (Y_pick_f rfl rfl) ?_
            refine TF_nil ?_
            refine thenS_normal ?_
            refine T_cond_false rfl ?_
            refine T_skip ?_
            refine thenS_normal ?_
            refine T_region ?_
            refine TL_y rfl rfl (Y_move rfl) ?_
            refine TL_y rfl rfl (Y_add rfl rfl (by omega)) ?_
            refine TL_y rfl rfl (Y_assign rfl) ?_
            refine TL_nil ?_
            refine T_region_draw (cells b9 (entryC noopE (none, 0)) 27 :: []) [0, 0, 2, 0, 0, 30, 63, 127, 255, 255, 511, 2047] [] [(0, true), (1, true), (3, true), (4, true), (2, false), (5, true), (6, false), (7, true), (8, true), (9, true), (10, true), (11, true)] (by kernel_rfl) (by decide +kernel) GivesTo.g ?_
            refine TF_y rfl rfl (Y_move rfl) ?_
            refine TF_y rfl rfl (Y_move rfl) ?_
            refine TF_y rfl rfl (Y_move rfl) ?_
            refine TF_y rfl rfl (Y_load_agg rfl rfl) ?_
            refine TF_anchor rfl ?_
            refine TL_pullk b18 ?_
            refine TL_call rfl rfl (prBallot_spec) ?_
            rintro _ _ ⟨rfl, rfl⟩
            refine TF_end GivesTo.g ?_
            refine TF_y rfl rfl (Y_build rfl rfl) ?_
            refine TF_anchor rfl ?_
            refine TL_pullk b18 ?_
            refine TL_call rfl rfl (prOn_spec (p := putP (al2 slot nx) nx e) (alM 4 nx) mP0 (alM_ok (by decide) ⟨hn1, hnx⟩) (msgK_nil rfl rfl rfl rfl) (show (260 : Nat) ≤ 140737488355328 by decide)) ?_
            rintro _ _ ⟨A132, c132, B132, d132, rfl, rfl⟩
            rw [al_acc e ⟨hn1, hnx⟩]
            refine TF_end GivesTo.g ?_
            refine TF_y rfl rfl (Y_move rfl) ?_
            refine TF_y rfl rfl (Y_extract rfl rfl) ?_
            refine TF_y rfl rfl (Y_extract rfl rfl) ?_
            refine TF_y rfl rfl (Y_assign rfl) ?_
            refine TF_y rfl rfl (Y_assign rfl) ?_
            refine TF_nil ?_
            refine T_addr_n (sln (A := B132) (c := d132)) (show [(⟨nx, (1, 0), e⟩ : VotedD)][0]? = some _ from rfl) fun by_ oy ey => ?_
            subst ey
            refine T_rd [0, 1, 3, 7, 15, 31, 63, 127, 15, 511, 1023, 2047, 4095, 8191, 16383, 32767, 4095, 4095, 200703, 462847, 1048575, 2097151, 4194303] (by kernel_rfl) (by decide +kernel) ?_
            refine RD_pair 15 19 (by decide) ?_ ?_
            · refine RD_leaf (sl entryR (some ⟨bq, oq, none⟩) c l :: osl votedR 50 (some ⟨by_, oy, none⟩) d132 [(⟨nx, (1, 0), e⟩ : VotedD)] :: []) [0, 1, 3, 7, 15, 31, 63, 127, 15, 511, 1023, 2047, 4095, 8191, 16383, 32767, 4095, 4095, 200703, 524287, 1048575, 2097151, 4194303] [] [(0, true), (1, true), (2, true), (3, true), (4, true), (5, true), (6, true), (7, true), (8, true), (9, true), (10, true), (11, true), (12, true), (13, true), (14, true), (16, true), (17, true), (18, true), (15, false), (19, false), (20, false), (21, true), (22, true)] (by decide +kernel) GivesTo.g ?_
              refine TF_y rfl rfl (Y_move rfl) ?_
              refine TF_y rfl rfl (Y_len rfl) ?_
              refine TF_y rfl rfl (Y_ne rfl rfl) ?_
              refine TF_name 137 (v' := .bool false) rfl (congrArg Value.bool (decide_eq_false (by simp))) ?_
              refine TF_y rfl rfl (Y_move rfl) ?_
              refine TF_gy rfl rfl rfl rfl (Y_move rfl) ?_
              refine TF_gy rfl rfl rfl rfl (Y_index_n (R := votedR) (xs := [(⟨nx, (1, 0), e⟩ : VotedD)]) (j := 0) rfl rfl rfl rfl) ?_
              refine TF_gy rfl rfl rfl rfl (Y_field_addr2 rfl) ?_
              refine TF_gy rfl rfl rfl rfl (Y_load_nx (xs := [(⟨nx, (1, 0), e⟩ : VotedD)]) (j := 0) (v := .int .i64 nx) rfl (sln (c := d132)) rfl (fun _ ↦ rfl)) ?_
              refine TF_gy rfl rfl rfl rfl (Y_move rfl) ?_
              refine TF_gy rfl rfl rfl rfl (Y_ne rfl rfl) ?_
              refine TF_name 144 (v' := .bool false) rfl (congrArg Value.bool (decide_eq_false (by simp))) ?_
              refine TF_y rfl rfl (Y_pick_f rfl rfl) ?_
              refine TF_y rfl rfl (Y_move rfl) ?_
              refine TF_gy rfl rfl rfl rfl (Y_move rfl) ?_
              refine TF_gy rfl rfl rfl rfl (Y_index_n (R := votedR) (xs := [(⟨nx, (1, 0), e⟩ : VotedD)]) (j := 0) rfl rfl rfl rfl) ?_
              refine TF_gy rfl rfl rfl rfl (Y_field_addr2 rfl) ?_
              refine TF_gy rfl rfl rfl rfl (Y_move rfl) ?_
              refine TF_gy rfl rfl rfl rfl (Y_move rfl) ?_
              refine TF_gy rfl rfl rfl rfl (Y_index_n (R := entryR) (xs := l) rfl rfl rfl he) ?_
              refine TF_anchor rfl ?_
              refine TL_grun rfl rfl ?_
              refine TL_load_nx (xs := [(⟨nx, (1, 0), e⟩ : VotedD)]) (j := 0) rfl rfl (sln (c := d132)) rfl (fun _ => rfl) ?_
              intro p150 ok150
              simp only [List.cons_append, List.nil_append]
              refine TF_end GivesTo.g ?_
              refine TF_anchor rfl ?_
              refine TL_grun rfl rfl ?_
              refine TL_load_nx (xs := l) (q := 0) rfl rfl (sln (c := c)) he (fun _ => rfl) ?_
              intro p154 ok154
              simp only [List.cons_append, List.nil_append]
              refine TF_end GivesTo.g ?_
              refine TF_anchor rfl ?_
              refine TL_grun rfl rfl ?_
              refine TL_call rfl rfl (sameEntry_spec e e (A := p150.1) (c := p150.2) (B := p154.1) (d := p154.2) sln sln) ?_
              rintro _ _ ⟨rfl, rfl⟩
              refine TL_name 155 (v' := .bool true) rfl (congrArg Value.bool (by simp)) ?_
              refine TF_end GivesTo.g ?_
              refine TF_gy rfl rfl rfl rfl (Y_not_t rfl) ?_
              refine TF_y rfl rfl (Y_pick_f rfl rfl) ?_
              refine TF_nil ?_
              refine thenS_normal ?_
              refine T_cond_false rfl ?_
              refine T_skip ?_
              refine inB_normal ?_
              refine thenS_normal ?_
              refine T_region_last ?_
              refine TL_y rfl rfl (Y_move rfl) ?_
              refine TL_y rfl rfl (Y_add rfl rfl (by omega)) ?_
              refine TL_name 64 (v' := .int .i64 ((i + 1 : Nat) : Int)) rfl (rfl) ?_
              refine TL_y rfl rfl (Y_assign rfl) ?_
              refine TL_nil ?_
              refine thenS_normal ?_
              exact ⟨⟨i + 1, nx + 1⟩, ⟨by simp only; omega, by simp only; omega, by simp only; omega⟩, by simp only; omega, holds_to (sub_cons rfl (sub_cons rfl (sub_cons rfl (sub_cons rfl (sub_cons rfl (sub_nil)))))) GivesTo.g⟩
            · refine RD_leaf (sl entryR (some ⟨bq, oq, none⟩) c l :: osl votedR 50 (some ⟨by_, oy, none⟩) d132 [(⟨nx, (1, 0), e⟩ : VotedD)] :: []) [0, 1, 3, 7, 15, 31, 63, 127, 15, 511, 1023, 2047, 4095, 8191, 16383, 1015807, 4095, 4095, 200703, 462847, 1048575, 2097151, 4194303] [] [(0, true), (1, true), (2, true), (3, true), (4, true), (5, true), (6, true), (7, true), (8, true), (9, true), (10, true), (11, true), (12, true), (13, true), (14, true), (16, true), (17, true), (18, true), (19, false), (15, false), (20, false), (21, true), (22, true)] (by decide +kernel) GivesTo.g ?_
              refine TF_y rfl rfl (Y_move rfl) ?_
              refine TF_y rfl rfl (Y_len rfl) ?_
              refine TF_y rfl rfl (Y_ne rfl rfl) ?_
              refine TF_name 137 (v' := .bool false) rfl (congrArg Value.bool (decide_eq_false (by simp))) ?_
              refine TF_y rfl rfl (Y_move rfl) ?_
              refine TF_gy rfl rfl rfl rfl (Y_move rfl) ?_
              refine TF_gy rfl rfl rfl rfl (Y_index_n (R := votedR) (xs := [(⟨nx, (1, 0), e⟩ : VotedD)]) (j := 0) rfl rfl rfl rfl) ?_
              refine TF_gy rfl rfl rfl rfl (Y_field_addr2 rfl) ?_
              refine TF_gy rfl rfl rfl rfl (Y_load_nx (xs := [(⟨nx, (1, 0), e⟩ : VotedD)]) (j := 0) (v := .int .i64 nx) rfl (sln (c := d132)) rfl (fun _ ↦ rfl)) ?_
              refine TF_gy rfl rfl rfl rfl (Y_move rfl) ?_
              refine TF_gy rfl rfl rfl rfl (Y_ne rfl rfl) ?_
              refine TF_name 144 (v' := .bool false) rfl (congrArg Value.bool (decide_eq_false (by simp))) ?_
              refine TF_y rfl rfl (Y_pick_f rfl rfl) ?_
              refine TF_y rfl rfl (Y_move rfl) ?_
              refine TF_gy rfl rfl rfl rfl (Y_move rfl) ?_
              refine TF_gy rfl rfl rfl rfl (Y_index_n (R := votedR) (xs := [(⟨nx, (1, 0), e⟩ : VotedD)]) (j := 0) rfl rfl rfl rfl) ?_
              refine TF_gy rfl rfl rfl rfl (Y_field_addr2 rfl) ?_
              refine TF_gy rfl rfl rfl rfl (Y_move rfl) ?_
              refine TF_gy rfl rfl rfl rfl (Y_move rfl) ?_
              refine TF_gy rfl rfl rfl rfl (Y_index_n (R := entryR) (xs := l) rfl rfl rfl he) ?_
              refine TF_anchor rfl ?_
              refine TL_grun rfl rfl ?_
              refine TL_load_nx (xs := l) (q := 0) rfl rfl (sln (c := c)) he (fun _ => rfl) ?_
              intro p154 ok154
              simp only [List.cons_append, List.nil_append]
              refine TF_end GivesTo.g ?_
              refine TF_anchor rfl ?_
              refine TL_grun rfl rfl ?_
              refine TL_load_nx (xs := [(⟨nx, (1, 0), e⟩ : VotedD)]) (j := 0) rfl rfl (sln (c := d132)) rfl (fun _ => rfl) ?_
              intro p150 ok150
              simp only [List.cons_append, List.nil_append]
              refine TF_end GivesTo.g ?_
              refine TF_anchor rfl ?_
              refine TL_grun rfl rfl ?_
              refine TL_call rfl rfl (sameEntry_spec e e (A := p150.1) (c := p150.2) (B := p154.1) (d := p154.2) sln sln) ?_
              rintro _ _ ⟨rfl, rfl⟩
              refine TL_name 155 (v' := .bool true) rfl (congrArg Value.bool (by simp)) ?_
              refine TF_end GivesTo.g ?_
              refine TF_gy rfl rfl rfl rfl (Y_not_t rfl) ?_
              refine TF_y rfl rfl (Y_pick_f rfl rfl) ?_
              refine TF_nil ?_
              refine thenS_normal ?_
              refine T_cond_false rfl ?_
              refine T_skip ?_
              refine inB_normal ?_
              refine thenS_normal ?_
              refine T_region_last ?_
              refine TL_y rfl rfl (Y_move rfl) ?_
              refine TL_y rfl rfl (Y_add rfl rfl (by omega)) ?_
              refine TL_name 64 (v' := .int .i64 ((i + 1 : Nat) : Int)) rfl (rfl) ?_
              refine TL_y rfl rfl (Y_assign rfl) ?_
              refine TL_nil ?_
              refine thenS_normal ?_
              exact ⟨⟨i + 1, nx + 1⟩, ⟨by simp only; omega, by simp only; omega, by simp only; omega⟩, by simp only; omega, holds_to (sub_cons rfl (sub_cons rfl (sub_cons rfl (sub_cons rfl (sub_cons rfl (sub_nil)))))) GivesTo.g⟩
        · have h0 : propO (al2 slot nx) e = [] := (by unfold propO; rw [if_neg (by omega)])
          have h1 : propP (al2 slot nx) e = al2 slot nx := (by unfold propP; rw [if_neg (by omega)])
          rw [h0, h1]
          refine T_region ?_
          refine TL_y rfl rfl (Y_move rfl) ?_
          refine TL_y rfl rfl (Y_ne rfl rfl) ?_
          refine TL_name 76 (v' := .bool true) rfl (congrArg Value.bool (decide_eq_true (by omega))) ?_
          refine TL_nil ?_
          refine T_cond_true rfl ?_
          refine T_seq ?_
          refine T_region ?_
          refine TL_y rfl rfl (Y_move rfl) ?_
          refine TL_y rfl rfl (Y_ne rfl rfl) ?_
          refine TL_name 78 (v' := .bool false) rfl (congrArg Value.bool (decide_eq_false (by omega))) ?_
          refine TL_y rfl rfl (Y_move rfl) ?_
          refine TL_gskip rfl rfl rfl rfl ?_
          refine TL_gskip rfl rfl rfl rfl ?_
          refine TL_y rfl rfl (Y_pick_f rfl rfl) ?_
          refine TL_y rfl rfl (Y_move rfl) ?_
          refine TL_grun rfl rfl ?_
          refine TL_y rfl rfl (Y_move rfl) ?_
          refine TL_grun rfl rfl ?_
          refine TL_y rfl rfl (Y_len rfl) ?_
          refine TL_grun rfl rfl ?_
          refine TL_y rfl rfl (Y_ne rfl rfl) ?_
          refine TL_name 86 (v' := .bool false) rfl (congrArg Value.bool (decide_eq_false (by simp))) ?_
          refine TL_y rfl rfl (Y_pick_f rfl rfl) ?_
          refine TL_nil ?_
          refine T_cond_false rfl ?_
          refine T_skip ?_
          refine thenS_normal ?_
          refine T_exit ?_
          refine thenS_exit ?_
          refine inB_hit ?_
          refine thenS_normal ?_
          refine T_region_last ?_
          refine TL_y rfl rfl (Y_move rfl) ?_
          refine TL_y rfl rfl (Y_add rfl rfl (by omega)) ?_
          refine TL_name 64 (v' := .int .i64 ((i + 1 : Nat) : Int)) rfl (rfl) ?_
          refine TL_y rfl rfl (Y_assign rfl) ?_
          refine TL_nil ?_
          refine thenS_normal ?_
          exact ⟨⟨i + 1, nx⟩, ⟨by simp only; omega, hn1, hn2⟩, by simp only; omega, holds_to (sub_cons rfl (sub_cons rfl (sub_cons rfl (sub_cons rfl (sub_cons rfl (sub_nil)))))) GivesTo.g⟩
        · have h0 : propO (al2 slot nx) e = [] := (by unfold propO; rw [if_neg (by omega)])
          have h1 : propP (al2 slot nx) e = al2 slot nx := (by unfold propP; rw [if_neg (by omega)])
          rw [h0, h1]
          refine T_region ?_
          refine TL_y rfl rfl (Y_move rfl) ?_
          refine TL_y rfl rfl (Y_ne rfl rfl) ?_
          refine TL_name 76 (v' := .bool true) rfl (congrArg Value.bool (decide_eq_true (by omega))) ?_
          refine TL_nil ?_
          refine T_cond_true rfl ?_
          refine T_seq ?_
          refine T_region ?_
          refine TL_y rfl rfl (Y_move rfl) ?_
          refine TL_y rfl rfl (Y_ne rfl rfl) ?_
          refine TL_name 78 (v' := .bool true) rfl (congrArg Value.bool (decide_eq_true (by omega))) ?_
          refine TL_y rfl rfl (Y_move rfl) ?_
          refine TL_grun rfl rfl ?_
          refine TL_y rfl rfl (Y_move rfl) ?_
          refine TL_grun rfl rfl ?_
          refine TL_y rfl rfl (Y_ne rfl rfl) ?_
          refine TL_name 81 (v' := .bool false) rfl (congrArg Value.bool (decide_eq_false (by omega))) ?_
          refine TL_y rfl rfl (Y_pick_t rfl rfl) ?_
          refine TL_y rfl rfl (Y_move rfl) ?_
          refine TL_grun rfl rfl ?_
          refine TL_y rfl rfl (Y_move rfl) ?_
          refine TL_grun rfl rfl ?_
          refine TL_y rfl rfl (Y_len rfl) ?_
          refine TL_grun rfl rfl ?_
          refine TL_y rfl rfl (Y_ne rfl rfl) ?_
          refine TL_name 86 (v' := .bool false) rfl (congrArg Value.bool (decide_eq_false (by simp))) ?_
          refine TL_y rfl rfl (Y_pick_f rfl rfl) ?_
          refine TL_nil ?_
          refine T_cond_false rfl ?_
          refine T_skip ?_
          refine thenS_normal ?_
          refine T_exit ?_
          refine thenS_exit ?_
          refine inB_hit ?_
          refine thenS_normal ?_
          refine T_region_last ?_
          refine TL_y rfl rfl (Y_move rfl) ?_
          refine TL_y rfl rfl (Y_add rfl rfl (by omega)) ?_
          refine TL_name 64 (v' := .int .i64 ((i + 1 : Nat) : Int)) rfl (rfl) ?_
          refine TL_y rfl rfl (Y_assign rfl) ?_
          refine TL_nil ?_
          refine thenS_normal ?_
          exact ⟨⟨i + 1, nx⟩, ⟨by simp only; omega, hn1, hn2⟩, by simp only; omega, holds_to (sub_cons rfl (sub_cons rfl (sub_cons rfl (sub_cons rfl (sub_cons rfl (sub_nil)))))) GivesTo.g⟩
      · refine T_exit ?_
        refine thenS_exit ?_
        refine thenS_exit ?_
        refine inB_hit ?_
        refine thenS_normal ?_
        refine T_region ?_
        refine TL_y rfl rfl (Y_move rfl) ?_
        refine TL_pullk b18 ?_
        refine TL_call rfl rfl (prNext_spec) ?_
        rintro _ _ ⟨rfl, rfl⟩
        refine TL_y rfl rfl (Y_move rfl) ?_
        refine TL_y rfl rfl (Y_eq rfl rfl) ?_
        refine TL_name 161 (v' := .bool true) rfl (congrArg Value.bool (decide_eq_true rfl)) ?_
        refine TL_y rfl rfl (Y_move rfl) ?_
        refine TL_grun rfl rfl ?_
        refine TL_y rfl rfl (Y_move rfl) ?_
        refine TL_grun rfl rfl ?_
        refine TL_pullk b18 ?_
        refine TL_call rfl rfl (prFlights_spec) ?_
        rintro _ _ ⟨A164, c164, rfl, rfl⟩
        refine TL_grun rfl rfl ?_
        refine TL_y rfl rfl (Y_len rfl) ?_
        refine TL_grun rfl rfl ?_
        refine TL_y rfl rfl (Y_eq rfl rfl) ?_
        refine TL_name 166 (v' := .bool true) rfl (congrArg Value.bool (decide_eq_true rfl)) ?_
        refine TL_y rfl rfl (Y_pick_t rfl rfl) ?_
        refine TL_y rfl rfl (Y_assign rfl) ?_
        refine TL_nil ?_
        refine T_ret ?_
        exact RetG_1 (.inl rfl) rfl (ResV.tmp rfl) GivesTo.g (⟨rfl, rfl⟩)
    · refine TL_gskip rfl rfl rfl rfl ?_
      refine TL_gskip rfl rfl rfl rfl ?_
      refine TL_y rfl rfl (Y_pick_f rfl rfl) ?_
      refine TL_nil ?_
      refine T_cond_false rfl ?_
      refine T_exit ?_
      refine thenS_exit ?_
      refine thenS_exit ?_
      refine inB_hit ?_
      refine thenS_normal ?_
      refine T_region ?_
      refine TL_y rfl rfl (Y_move rfl) ?_
      refine TL_pullk b18 ?_
      refine TL_call rfl rfl (prNext_spec) ?_
      rintro _ _ ⟨rfl, rfl⟩
      refine TL_y rfl rfl (Y_move rfl) ?_
      refine TL_y rfl rfl (Y_eq rfl rfl) ?_
      refine TL_name 161 (v' := .bool true) rfl (congrArg Value.bool (decide_eq_true rfl)) ?_
      refine TL_y rfl rfl (Y_move rfl) ?_
      refine TL_grun rfl rfl ?_
      refine TL_y rfl rfl (Y_move rfl) ?_
      refine TL_grun rfl rfl ?_
      refine TL_pullk b18 ?_
      refine TL_call rfl rfl (prFlights_spec) ?_
      rintro _ _ ⟨A164, c164, rfl, rfl⟩
      refine TL_grun rfl rfl ?_
      refine TL_y rfl rfl (Y_len rfl) ?_
      refine TL_grun rfl rfl ?_
      refine TL_y rfl rfl (Y_eq rfl rfl) ?_
      refine TL_name 166 (v' := .bool true) rfl (congrArg Value.bool (decide_eq_true rfl)) ?_
      refine TL_y rfl rfl (Y_pick_t rfl rfl) ?_
      refine TL_y rfl rfl (Y_assign rfl) ?_
      refine TL_nil ?_
      refine T_ret ?_
      exact RetG_1 (.inl rfl) rfl (ResV.tmp rfl) GivesTo.g (⟨rfl, rfl⟩)
end Go.SL
set_option linter.unusedVariables false
namespace Go.SL
open Go Go.Proofs
theorem msum_mem {α : Type} {μ : α → Nat} : ∀ {l : List α} {x : α}, x ∈ l → μ x ≤ (l.map μ).sum
  | y :: l, x, h => by
    rw [List.map_cons, List.sum_cons]
    rcases List.mem_cons.1 h with rfl | h
    · omega
    · have := msum_mem (μ := μ) h; omega
end Go.SL
set_option linter.unusedVariables false
namespace Go.SL
open Go Go.Proofs
theorem ents_small {l : List EntryD} (h : (l.map μEntry).sum ≤ 1048576) : ∀ e ∈ l, cSeal e.order ≤ 140737488355000 := fun e he => by
  have h1 := Nat.le_trans (msum_mem (μ := μEntry) he) h
  have h2 := cSeal_μ e.order
  unfold μEntry at h1
  omega
theorem ents_len {l : List EntryD} (h : (l.map μEntry).sum ≤ 1048576) : l.length ≤ 1048576 := by
  have := sum_ge (μ := μEntry) (fun x => by unfold μEntry; omega) l
  omega
theorem voteds_len {l : List VotedD} (h : (l.map μVoted).sum ≤ 1048576) : l.length ≤ 1048576 := by
  have := sum_ge (μ := μVoted) (fun x => by unfold μVoted; omega) l
  omega
theorem voteds_small {l : List VotedD} (h : (l.map μVoted).sum ≤ 1048576) : cVoteds l ≤ 140737488355000 := by
  have := cVoteds_μ l
  omega
end Go.SL
set_option linter.unusedVariables false
namespace Go.Proofs.Ytibejpgjgkeheaa
open Go.SL
theorem up_one {H : Type} (d : DataW H) : 1 ≤ Rows.uptoBulk d := by
  cases d with
  | lit l => cases l <;> simp [Rows.uptoBulk]
  | nil => simp [Rows.uptoBulk]
  | ptr d => simp [Rows.uptoBulk]
  | slice elems spare => simp [Rows.uptoBulk]
  | agg parts => simp [Rows.uptoBulk]
  | iface t d => simp [Rows.uptoBulk]
  | map entries => simp [Rows.uptoBulk]
  | held h => simp [Rows.uptoBulk]
theorem up_all {H : Type} : ∀ l : List (DataW H), Rows.uptoBulkAll l = (l.map Rows.uptoBulk).sum
  | [] => by simp [Rows.uptoBulkAll]
  | d :: l => by simp [Rows.uptoBulkAll, up_all l]
def upB {H : Type} : Bulk H := ⟨Rows.uptoBulk, up_one, fun b => by simp [Rows.uptoBulk], fun e s => by simp only [Rows.uptoBulk, up_all]; omega, fun ps => by simp only [Rows.uptoBulk, up_all]; omega, fun d => by simp only [Rows.uptoBulk]; omega⟩
theorem up_bound {H : Type} {l : List (DataW H)} (hk : Rows.uptoSmall H l = true) : (l.map upB.f).sum ≤ 1048576 := by
  have := of_decide_eq_true hk
  rwa [up_all] at this
end Go.Proofs.Ytibejpgjgkeheaa
set_option linter.unusedVariables false
set_option linter.unusedSimpArgs false
namespace Go.SL
open Go Go.Proofs
end Go.SL
set_option linter.unusedVariables false
set_option linter.unusedSimpArgs false
namespace Go.Proofs
open Go.Shelf
shelf_lay Lays2.n20 Nm2 20 at Try as Try.lays2n20
end Go.Proofs
namespace Go.SL
open Go Go.Proofs
end Go.SL
set_option linter.unusedVariables false
set_option linter.unusedSimpArgs false
namespace Go.SL
open Go Go.Proofs
def slotL (l : List VotedD) : List Int := l.map fun v => v.slot
structure SsSt where
  i : Nat
  A : Option Addr
  c : Nat
def Rises (l : List VotedD) (ys : List Int) : Prop := ys.Pairwise (fun x y => x < y) ∧ ∀ x, x ∈ ys ↔ x ∈ slotL l
structure RsSt where
  i : Nat
  A : Option Addr
  c : Nat
  ys : List Int
end Go.SL
set_option linter.unusedVariables false
set_option linter.unusedSimpArgs false
namespace Go.SL
open Go Go.Proofs
structure RpSt where
  i : Nat
  r : Int
def RpI (l : List VotedD) (slot : Int) (g : RpSt) : Prop := (g.r = -1 ∧ pickV slot (l.take g.i) = none) ∨ ∃ (j : Nat) (u : VotedD), g.r = (j : Int) ∧ l[j]? = some u ∧ pickV slot (l.take g.i) = some u
end Go.SL
