/- Dots: the law on orders. -/
import Derived.Test.YtooadkecmchpaaaDtX
import Derived.Test.YtooadkecmchpaaaDtGI
set_option linter.unusedVariables false
set_option linter.unusedSimpArgs false
namespace Go.SL
open Go Go.Proofs
structure DoSt where
  i : Nat
  ls : List (DotD × tINT)
  lt : List (DotD × tSTR)
theorem dotsOrder_walk {L : List HP} {A : Option Addr} {c : Nat} {ys : List pairD} (by_ : Int) (hby : intIn .i64 by_) (hk : SlK L pairR A c ys) : Fn Try.prog 3 #[.slice A ys.length c, .int .i64 by_] L (fun v L' => v = .bool true ∧ L' = L) := by
  have hby := i64In hby
  refine Fn_enterM Try.func3 rfl rfl rfl rfl ?_
  refine T_gives hk.lay ?_
  refine hk.tail.lens fun hyl => ?_
  simp only [maxEl] at hyl
  refine T_region ?_
  refine TL_y rfl rfl (Y_assign rfl) ?_
  refine TL_nil ?_
  refine T_region ?_
  refine TL_call rfl rfl (newINT_spec _) ?_
  rintro _ _ ⟨b10, p10, rfl, rfl⟩
  refine TL_call rfl rfl (newSTR_spec _) ?_
  rintro _ _ ⟨b11, p11, rfl, rfl⟩
  refine TL_y rfl rfl (Y_assign rfl) ?_
  refine TL_y rfl rfl (Y_assign rfl) ?_
  refine TL_nil ?_
  refine T_seq ?_
  refine T_region ?_
  refine TL_call rfl rfl (lives09_spec _) ?_
  rintro _ _ ⟨rfl, rfl⟩
  refine TL_name 12 (v' := .bool true) rfl (rfl) ?_
  refine TL_y rfl rfl (Y_not_t rfl) ?_
  refine TL_y rfl rfl (Y_move rfl) ?_
  refine TL_grun rfl rfl ?_
  refine TL_y rfl rfl (Y_move rfl) ?_
  refine TL_grun rfl rfl ?_
  refine TL_y rfl rfl (Y_equal rfl rfl (EqIs.ptr_nil)) ?_
  refine TL_name 16 (v' := .bool false) rfl (by simp) ?_
  refine TL_y rfl rfl (Y_pick_f rfl rfl) ?_
  refine TL_y rfl rfl (Y_move rfl) ?_
  refine TL_grun rfl rfl ?_
  refine TL_y rfl rfl (Y_move rfl) ?_
  refine TL_grun rfl rfl ?_
  refine TL_y rfl rfl (Y_equal rfl rfl (EqIs.ptr_nil)) ?_
  refine TL_name 20 (v' := .bool false) rfl (by simp) ?_
  refine TL_y rfl rfl (Y_pick_f rfl rfl) ?_
  refine TL_nil ?_
  refine T_cond_false rfl ?_
  refine T_skip ?_
  refine thenS_normal ?_
  refine T_seq ?_
  refine T_region ?_
  refine TL_y rfl rfl (Y_move rfl) ?_
  refine TL_y rfl rfl (Y_len rfl) ?_
  refine TL_y rfl rfl (Y_gt rfl rfl) ?_
  refine TL_nil ?_
  refine T_if rfl (fun h24 => ?_) (fun h24 => ?_)
  · refine T_region ?_
    refine TL_y rfl rfl (Y_assign rfl) ?_
    refine TL_nil ?_
    refine T_ret ?_
    refine thenS_ret ?_
    refine retM0 ?_
    exact RetG_1 (.inl rfl) rfl (ResV.tmp rfl) GivesTo.g (⟨rfl, rfl⟩)
  · refine T_skip ?_
    refine thenS_normal ?_
    refine T_region ?_
    refine TL_y rfl rfl (Y_assign rfl) ?_
    refine TL_nil ?_
    refine T_seq ?_
    refine T_region ?_
    refine TL_y rfl rfl (Y_move rfl) ?_
    refine TL_y rfl rfl (Y_len rfl) ?_
    refine TL_y rfl rfl (Y_gt rfl rfl) ?_
    refine TL_nil ?_
    refine T_joinKT (σ := Int) [0, 5, 6] (fun kk => (0 < ys.length → -(ys.length : Int) < kk ∧ kk < ys.length) ∧ (ys.length = 0 → kk = 0)) (fun kk kv => (7, .int .i64 kk) :: kv) (fun kk => dsSTR b11 p11 [] :: dsINT b10 p10 [] :: sl pairR A c ys :: L) rfl ?_ ?_
    · refine T_if rfl (fun h27 => ?_) (fun h27 => ?_)
      · refine T_region_last ?_
        refine TL_y rfl rfl (Y_move rfl) ?_
        refine TL_y rfl rfl (Y_move rfl) ?_
        refine TL_y rfl rfl (Y_len rfl) ?_
        refine TL_y rfl rfl (Y_rem rfl rfl (by omega)) ?_
        refine TL_y rfl rfl (Y_assign rfl) ?_
        refine TL_nil ?_
        refine thenS_normal ?_
        exact ⟨by_.tmod (ys.length : Int), ⟨fun hp => tm_bound by_ (by omega), fun h0 => by omega⟩, holds_to (sub_cons rfl (sub_cons rfl (sub_cons rfl (sub_cons rfl (sub_nil))))) GivesTo.g⟩
      · refine T_skip ?_
        refine thenS_normal ?_
        exact ⟨0, ⟨fun hp => by omega, fun _ => rfl⟩, holds_to (sub_cons rfl (sub_cons rfl (sub_cons rfl (sub_cons rfl (sub_nil))))) GivesTo.g⟩
    · intro kk hkk
      refine T_seq ?_
      refine T_region ?_
      refine TL_y rfl rfl (Y_move rfl) ?_
      refine TL_y rfl rfl (Y_lt rfl rfl) ?_
      refine TL_nil ?_
      refine T_joinKT (σ := Nat) [0, 5, 6] (fun kn => kn < ys.length ∨ (ys.length = 0 ∧ kn = 0)) (fun kn kv => (7, .int .i64 (kn : Int)) :: kv) (fun kn => dsSTR b11 p11 [] :: dsINT b10 p10 [] :: sl pairR A c ys :: L) rfl ?_ ?_
      · refine T_if rfl (fun h33 => ?_) (fun h33 => ?_)
        · refine T_region_last ?_
          refine TL_y rfl rfl (Y_move rfl) ?_
          refine TL_y rfl rfl (Y_move rfl) ?_
          refine TL_y rfl rfl (Y_len rfl) ?_
          refine TL_y rfl rfl (Y_add rfl rfl (by omega)) ?_
          refine TL_name 37 (v' := .int .i64 (((kk + (ys.length : Int)).toNat : Nat) : Int)) rfl (by congr 1; omega) ?_
          refine TL_y rfl rfl (Y_assign rfl) ?_
          refine TL_nil ?_
          refine thenS_normal ?_
          exact ⟨(kk + (ys.length : Int)).toNat, by omega, holds_to (sub_cons rfl (sub_cons rfl (sub_cons rfl (sub_cons rfl (sub_nil))))) GivesTo.g⟩
        · refine T_name 7 rfl (show Value.int .i64 kk = .int .i64 ((kk.toNat : Nat) : Int) by congr 1; omega) ?_
          refine T_skip ?_
          refine thenS_normal ?_
          exact ⟨kk.toNat, by omega, holds_to (sub_cons rfl (sub_cons rfl (sub_cons rfl (sub_cons rfl (sub_nil))))) GivesTo.g⟩
      · intro kn hkn
        refine T_seq ?_
        refine T_region ?_
        refine TL_y rfl rfl (Y_assign rfl) ?_
        refine TL_nil ?_
        refine T_block ?_
        refine T_loopK (σ := DoSt) [0, 5, 6, 7] (fun g => g.i ≤ ys.length ∧ g.ls.length ≤ g.i ∧ g.lt.length ≤ g.i ∧ (∀ d, hasD g.ls d ↔ mayD d ∧ ∃ q ∈ ys.take g.i, q.1 = d) ∧ (∀ d, hasD g.lt d ↔ mayD d ∧ ∃ q ∈ turnG ys kn g.i, q.1 = d)) (fun g kv => (8, .int .i64 (g.i : Int)) :: kv) (fun g => dsSTR b11 p11 g.lt :: dsINT b10 p10 g.ls :: sl pairR A c ys :: L) (fun g => ys.length - g.i) (⟨0, [], []⟩) rfl (⟨Nat.zero_le _, Nat.le_refl _, Nat.le_refl _, fun d => by simp [hasD, getM], fun d => by simp [hasD, getM, turnG]⟩) (GivesTo.g) (sub_cons rfl (sub_cons rfl (sub_cons rfl (sub_cons rfl (sub_cons rfl (sub_nil)))))) ?_
        rintro ⟨i, ls, lt⟩ ⟨hi, hl1, hl2, hs1, ht1⟩
        dsimp only at hi hl1 hl2 hs1 ht1 ⊢
        refine T_seq ?_
        refine T_region ?_
        refine TL_y rfl rfl (Y_move rfl) ?_
        refine TL_y rfl rfl (Y_move rfl) ?_
        refine TL_y rfl rfl (Y_len rfl) ?_
        refine TL_y rfl rfl (Y_lt rfl rfl) ?_
        refine TL_nil ?_
        refine T_if rfl (fun h41 => ?_) (fun h41 => ?_)
        · refine T_skip ?_
          refine thenS_normal ?_
          refine T_seq ?_
          refine T_block ?_
          obtain ⟨u, hu⟩ : ∃ u, ys[i]? = some u := ⟨_, List.getElem?_eq_getElem (by omega)⟩
          have hpos : 0 < ys.length := by omega
          have hmd := Nat.mod_lt (i + kn) hpos
          refine T_pullk b10 ?_
          refine T_dsINTI fun hi1 => ?_
          refine T_pullk b11 ?_
          refine T_dsSTRI fun hi2 => ?_
          refine T_region ?_
          refine TL_y rfl rfl (Y_move rfl) ?_
          refine TL_y rfl rfl (Y_move rfl) ?_
          refine TL_y rfl rfl (Y_move rfl) ?_
          refine TL_index_n rfl rfl rfl (rfl) (sln) (hu) ?_
          intro bn47 on47 hA47 hk47
          have hu47 := hu
          refine TL_y rfl rfl (Y_field_addr2 rfl) ?_
          refine TL_y rfl rfl (Y_load_naf rfl hk47 hu47 rfl) ?_
          refine TL_y rfl rfl (Y_move rfl) ?_
          refine TL_pullk b10 ?_
          refine TL_call rfl rfl (addINT_spec u.1 (i : Int) (i64In_mk (by omega))) ?_
          rintro _ _ ⟨rfl, rfl⟩
          refine TL_nil ?_
          refine T_region_last ?_
          refine TL_y rfl rfl (Y_move rfl) ?_
          refine TL_y rfl rfl (Y_move rfl) ?_
          refine TL_y rfl rfl (Y_move rfl) ?_
          refine TL_y rfl rfl (Y_len rfl) ?_
          refine TL_y rfl rfl (Y_sub rfl rfl (by omega)) ?_
          refine TL_y rfl rfl (Y_move rfl) ?_
          refine TL_y rfl rfl (Y_move rfl) ?_
          refine TL_y rfl rfl (Y_add rfl rfl (by omega)) ?_
          refine TL_name 59 (v' := .int .i64 ((i + kn : Nat) : Int)) rfl (rfl) ?_
          refine TL_y rfl rfl (Y_move rfl) ?_
          refine TL_y rfl rfl (Y_len rfl) ?_
          refine TL_y rfl rfl (Y_rem rfl rfl (by omega)) ?_
          refine TL_name 62 (v' := .int .i64 (((i + kn) % ys.length : Nat) : Int)) rfl (rfl) ?_
          refine TL_y rfl rfl (Y_sub rfl rfl (by omega)) ?_
          refine TL_name 63 (v' := .int .i64 ((idxG ys.length kn i : Nat) : Int)) rfl (by congr 1; unfold idxG; omega) ?_
          obtain ⟨w, hw⟩ : ∃ w, ys[idxG ys.length kn i]? = some w := ⟨_, List.getElem?_eq_getElem (by unfold idxG; omega)⟩
          refine TL_index_n rfl rfl rfl (rfl) (sln) (hw) ?_
          intro bn64 on64 hA64 hk64
          have hu64 := hw
          refine TL_y rfl rfl (Y_field_addr2 rfl) ?_
          refine TL_y rfl rfl (Y_load_naf rfl hk64 hu64 rfl) ?_
          refine TL_pullk b11 ?_
          refine TL_call rfl rfl (addSTR_spec w.1 ⟨#[120]⟩ (one_str _)) ?_
          rintro _ _ ⟨rfl, rfl⟩
          refine TL_nil ?_
          refine inB_normal ?_
          refine thenS_normal ?_
          have ha1 := add_has (x := (i : Int)) (d := u.1) hi1 (by omega)
          have ha2 := add_has (x := (⟨#[120]⟩ : tSTR)) (d := w.1) hi2 (by omega)
          have hb1 := add_len (l := ls) (d := u.1) (x := (i : Int))
          have hb2 := add_len (l := lt) (d := w.1) (x := (⟨#[120]⟩ : tSTR))
          refine T_region_last ?_
          refine TL_y rfl rfl (Y_move rfl) ?_
          refine TL_y rfl rfl (Y_add rfl rfl (by omega)) ?_
          refine TL_name 43 (v' := .int .i64 ((i + 1 : Nat) : Int)) rfl (rfl) ?_
          refine TL_y rfl rfl (Y_assign rfl) ?_
          refine TL_nil ?_
          refine thenS_normal ?_
          exact ⟨⟨i + 1, (addS ls u.1 (i : Int)).1, (addS lt w.1 ⟨#[120]⟩).1⟩, ⟨by simp only; omega, by simp only; omega, by simp only; omega, fun d => by dsimp only; rw [ha1, hs1, takeAt hu]; exact has_snoc, fun d => by dsimp only; rw [ha2, ht1, turnG_succ hw]; exact has_snoc⟩, by simp only; omega, holds_to (sub_cons rfl (sub_cons rfl (sub_cons rfl (sub_cons rfl (sub_cons rfl (sub_nil)))))) GivesTo.g⟩
        · refine T_exit ?_
          refine thenS_exit ?_
          refine thenS_exit ?_
          refine inB_hit ?_
          refine thenS_normal ?_
          have hie : i = ys.length := by omega
          subst hie
          refine T_pullk b10 ?_
          refine T_dsINTI fun hi1 => ?_
          refine T_pullk b11 ?_
          refine T_dsSTRI fun hi2 => ?_
          have hall : ∀ d, hasD ls d ↔ hasD lt d := fun d => by rw [hs1, ht1, List.take_length]; refine and_congr_right fun _ => ⟨fun ⟨q, hq, e⟩ => ⟨q, ?_, e⟩, fun ⟨q, hq, e⟩ => ⟨q, ?_, e⟩⟩; (rcases hkn with h | h; exact (turnG_perm ys h).mem_iff.2 hq; (have := List.eq_nil_of_length_eq_zero h.1; rw [this] at hq; cases hq)); (rcases hkn with h | h; exact (turnG_perm ys h).mem_iff.1 hq; (rw [h.1] at hq; cases hq))
          have hvc := vecL_congr hi1 hi2 hall
          have hec := extra_congr hi1 hi2 hall
          have hlc := len_congr hi1 hi2 hall
          have hcs := count_split ls (vecL ls)
          have hpl : (plainV (vecL ls)).length ≤ 7 := Nat.le_trans (plain_len _) (by rw [vecL_len]; exact Nat.le_refl _)
          refine T_region ?_
          refine TL_alloc rfl rfl ?_
          intro b9
          refine TL_store rfl rfl rfl rfl rfl rfl ?_
          refine TL_nil ?_
          refine T_seq ?_
          refine T_region ?_
          refine TL_y rfl rfl (Y_move rfl) ?_
          refine TL_y rfl rfl (Y_move rfl) ?_
          refine TL_pullk b10 ?_
          refine TL_call rfl rfl (vectorINT_spec) ?_
          rintro _ _ ⟨A70, c70, rfl, rfl⟩
          refine TL_call rfl rfl (uptoINT_spec rfl rfl sln (by omega)) ?_
          rintro _ _ ⟨bn0, bw0, bo0, Aw0, cw0, rfl, rfl⟩
          refine TL_y rfl rfl (Y_equal rfl rfl (EqIs.func_nil)) ?_
          refine TL_name 72 (v' := .bool false) rfl (rfl) ?_
          refine TL_nil ?_
          refine T_cond_false rfl ?_
          refine T_skip ?_
          refine thenS_normal ?_
          refine T_seq ?_
          refine T_region ?_
          refine TL_y rfl rfl (Y_move rfl) ?_
          refine TL_y rfl rfl (Y_move rfl) ?_
          refine TL_pullk b10 ?_
          refine TL_call rfl rfl (vectorINT_spec) ?_
          rintro _ _ ⟨A75, c75, rfl, rfl⟩
          refine TL_call rfl rfl (uptoINT_spec rfl rfl sln (by omega)) ?_
          rintro _ _ ⟨bn, bw, bo, Aw, cw, rfl, rfl⟩
          refine TL_nil ?_
          refine T_block ?_
          refine T_range_iterS (fun g : Nat => [cells b9 [.int .i64 (g : Int)] 3]) (fun s _ s' => s'.2 = none ∧ s'.1 = s.1 + 1) (fun g : Nat => g) (0) rfl (whereINT_iter (b := b10) (p := p10) (l := ls) (bn := bn) (bw := bw) (fsw := []) (csw := [.pointer (some ⟨bo, 0, none⟩)]) (Lw := upINT bo Aw cw (plainV (vecL ls))) (W := fun d => decide (hasV (plainV (vecL ls)) d)) (fun d Lx h => upto1INT_spec d)) ((show Gives _ ([cells b9 [.int .i64 ((0 : Nat) : Int)] 3] ++ ([dsINT b10 p10 ls] ++ (whINT b10 bn bw 60 [] [.pointer (some ⟨bo, 0, none⟩)] (upINT bo Aw cw (plainV (vecL ls))) ++ (dsSTR b11 p11 lt :: L)))) from GivesTo.g (L' := cells b9 [.int .i64 ((0 : Nat) : Int)] 3 :: dsINT b10 p10 ls :: cells bn [.pointer (some ⟨b10, 0, none⟩)] 23 :: cells bw [.func (.func 60) #[] #[.pointer (some ⟨bo, 0, none⟩)]] 102 :: con bw (upINT bo Aw cw (plainV (vecL ls))) :: dsSTR b11 p11 lt :: L))) (by decide) (fun _ => rfl) rfl (fun s x s' h => h.2) (fun l900 b900 g x Lx hx hlt => ?_) (fun m900 xs g hseq hrun => ?_)
          · dsimp only at hlt ⊢
            simp only [List.cons_append, List.nil_append]
            try simp only [List.cons_append, List.nil_append]
            refine T_skip ?_
            refine ⟨rfl, _, FindHP.g, ?_⟩
            refine T_block ?_
            refine T_region_last ?_
            refine TL_y rfl rfl (Y_load rfl rfl) ?_
            refine TL_y rfl rfl (Y_add rfl rfl (by omega)) ?_
            refine TL_name 80 (v' := .int .i64 ((g + 1 : Nat) : Int)) rfl (rfl) ?_
            refine TL_store rfl rfl rfl rfl rfl rfl ?_
            refine TL_nil ?_
            refine inB_normal ?_
            exact ⟨g + 1, none, rfl, ⟨rfl, rfl⟩, GivesTo.g⟩
          · obtain ⟨n2, j⟩ := g
            obtain ⟨hj, hn2⟩ := count_runs hrun rfl
            dsimp only at hj hn2
            subst hj
            have hxs := hseq.1 rfl
            have hn3 : n2 = (ls.filter fun q => decide (hasV (vecL ls) q.1)).length := by rw [hn2, hxs, Nat.zero_add]; congr 1; exact List.filter_congr fun q _ => by simp only [hasV_plain]
            try simp only [List.cons_append, List.nil_append]
            refine behind_none ?_
            refine inB_normal ?_
            refine thenS_normal ?_
            refine T_region_draw (cells b9 [.int .i64 (n2 : Int)] 3 :: []) [0, 1, 0, 7, 15, 31, 63, 127, 63, 511, 1023, 2047, 4095, 8191, 16383, 8191, 65535, 131071, 262143, 524287, 1048575, 1048575, 3145727, 7340031, 16777215, 1048575, 40894463, 134217727, 268435455, 536870911] [] [(0, true), (2, true), (1, false), (3, false), (4, false), (5, true), (6, true), (8, true), (7, false), (9, false), (10, false), (11, true), (12, true), (13, true), (15, true), (14, false), (16, false), (17, true), (18, true), (19, true), (20, true), (21, true), (25, true), (22, false), (23, true), (24, true), (26, false), (27, true), (28, true), (29, true)] (by kernel_rfl) (by decide +kernel) GivesTo.g ?_
            refine TF_y rfl rfl (Y_move rfl) ?_
            refine TF_y rfl rfl (Y_move rfl) ?_
            refine TF_anchor rfl ?_
            refine TL_pullk b10 ?_
            refine TL_call rfl rfl (vectorINT_spec) ?_
            rintro _ _ ⟨A82, c82, rfl, rfl⟩
            refine TF_end GivesTo.g ?_
            refine TF_anchor rfl ?_
            refine TL_pullk b11 ?_
            refine TL_call rfl rfl (vectorSTR_spec) ?_
            rintro _ _ ⟨A84, c84, rfl, rfl⟩
            refine TF_end GivesTo.g ?_
            refine TF_anchor rfl ?_
            refine TL_call rfl rfl (same08D_spec sln sln) ?_
            rintro _ _ ⟨rfl, rfl⟩
            refine TL_name 85 (v' := .bool true) rfl (congrArg Value.bool (decide_eq_true (by rw [hvc]))) ?_
            refine TF_end GivesTo.g ?_
            refine TF_y rfl rfl (Y_move rfl) ?_
            refine TF_gy rfl rfl rfl rfl (Y_move rfl) ?_
            refine TF_gy rfl rfl rfl rfl (Y_move rfl) ?_
            refine TF_anchor rfl ?_
            refine TL_grun rfl rfl ?_
            refine TL_pullk b10 ?_
            refine TL_call rfl rfl (extrasINT_spec) ?_
            rintro _ _ ⟨A88, c88, rfl, rfl⟩
            refine TF_end GivesTo.g ?_
            refine TF_anchor rfl ?_
            refine TL_grun rfl rfl ?_
            refine TL_pullk b11 ?_
            refine TL_call rfl rfl (extrasSTR_spec) ?_
            rintro _ _ ⟨A90, c90, rfl, rfl⟩
            refine TF_end GivesTo.g ?_
            refine TF_anchor rfl ?_
            refine TL_grun rfl rfl ?_
            refine TL_call rfl rfl (sameDots_spec sln sln) ?_
            rintro _ _ ⟨rfl, rfl⟩
            refine TL_name 91 (v' := .bool true) rfl (congrArg Value.bool (decide_eq_true hec)) ?_
            refine TF_end GivesTo.g ?_
            refine TF_y rfl rfl (Y_pick_t rfl rfl) ?_
            refine TF_y rfl rfl (Y_move rfl) ?_
            refine TF_gy rfl rfl rfl rfl (Y_move rfl) ?_
            refine TF_gy rfl rfl rfl rfl (Y_move rfl) ?_
            refine TF_anchor rfl ?_
            refine TL_grun rfl rfl ?_
            refine TL_pullk b10 ?_
            refine TL_call rfl rfl (lenINT_spec) ?_
            rintro _ _ ⟨rfl, rfl⟩
            refine TF_end GivesTo.g ?_
            refine TF_anchor rfl ?_
            refine TL_grun rfl rfl ?_
            refine TL_pullk b11 ?_
            refine TL_call rfl rfl (lenSTR_spec) ?_
            rintro _ _ ⟨rfl, rfl⟩
            refine TF_end GivesTo.g ?_
            refine TF_gy rfl rfl rfl rfl (Y_eq rfl rfl) ?_
            refine TF_name 98 (v' := .bool true) rfl (congrArg Value.bool (decide_eq_true (by rw [hlc]))) ?_
            refine TF_y rfl rfl (Y_pick_t rfl rfl) ?_
            refine TF_y rfl rfl (Y_move rfl) ?_
            refine TF_gy rfl rfl rfl rfl (Y_load rfl rfl) ?_
            refine TF_gy rfl rfl rfl rfl (Y_move rfl) ?_
            refine TF_gy rfl rfl rfl rfl (Y_move rfl) ?_
            refine TF_anchor rfl ?_
            refine TL_grun rfl rfl ?_
            refine TL_pullk b10 ?_
            refine TL_call rfl rfl (extrasINT_spec) ?_
            rintro _ _ ⟨A103, c103, rfl, rfl⟩
            refine TF_end GivesTo.g ?_
            refine TF_gy rfl rfl rfl rfl (Y_len rfl) ?_
            refine TF_gy rfl rfl rfl rfl (Y_add rfl rfl (by have := hi1.len; unfold extraD at *; omega)) ?_
            refine TF_anchor rfl ?_
            refine TL_grun rfl rfl ?_
            refine TL_pullk b10 ?_
            refine TL_call rfl rfl (lenINT_spec) ?_
            rintro _ _ ⟨rfl, rfl⟩
            refine TF_end GivesTo.g ?_
            refine TF_gy rfl rfl rfl rfl (Y_eq rfl rfl) ?_
            refine TF_name 108 (v' := .bool true) rfl (congrArg Value.bool (decide_eq_true (by unfold extraD; omega))) ?_
            refine TF_y rfl rfl (Y_pick_t rfl rfl) ?_
            refine TF_y rfl rfl (Y_assign rfl) ?_
            refine TF_nil ?_
            refine T_ret ?_
            refine retM1 ?_
            exact RetG_1 (.inl rfl) rfl (ResV.tmp rfl) GivesTo.g (⟨rfl, rfl⟩)
end Go.SL
