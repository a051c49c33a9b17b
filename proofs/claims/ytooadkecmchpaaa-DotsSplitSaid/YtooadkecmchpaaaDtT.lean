/- Dots: the law on splits: the walk. -/
import Derived.Test.YtooadkecmchpaaaDtR
set_option linter.unusedVariables false
set_option linter.unusedSimpArgs false
namespace Go.SL
open Go Go.Proofs
theorem dotsSplit_walk {L : List HP} {A Av : Option Addr} {c cv : Nat} {ys : List pairD} {v : List Int} (hk : SlK L pairR A c ys) (hkv : SlK L (intR .i64) Av cv v) (hvl : v.length ≤ 17592186043904) : Fn Try.prog 7 #[.slice A ys.length c, .slice Av v.length cv] L (fun v L' => v = .bool true ∧ L' = L) := by
  refine Fn_enterM Try.func7 rfl rfl rfl rfl ?_
  refine T_gives hk.lay ?_
  refine T_gives hkv.tail.lay ?_
  refine hk.tail.tail.lens fun hyl => ?_
  simp only [maxEl] at hyl
  refine T_region ?_
  refine TL_box rfl rfl rfl ?_
  intro b3
  refine TL_alloc rfl rfl ?_
  intro b4
  refine TL_nil ?_
  refine T_region ?_
  refine TL_call rfl rfl (newSTR_spec _) ?_
  rintro _ _ ⟨b18, p18, rfl, rfl⟩
  refine TL_alloc rfl rfl ?_
  intro b5
  refine TL_store rfl rfl rfl rfl rfl rfl ?_
  refine TL_nil ?_
  refine T_seq ?_
  refine T_region ?_
  refine TL_call rfl rfl (lives09_spec _) ?_
  rintro _ _ ⟨rfl, rfl⟩
  refine TL_name 19 (v' := .bool true) rfl (rfl) ?_
  refine TL_y rfl rfl (Y_not_t rfl) ?_
  refine TL_y rfl rfl (Y_move rfl) ?_
  refine TL_grun rfl rfl ?_
  refine TL_y rfl rfl (Y_load rfl rfl) ?_
  refine TL_grun rfl rfl ?_
  refine TL_y rfl rfl (Y_equal rfl rfl (EqIs.ptr_nil)) ?_
  refine TL_name 23 (v' := .bool false) rfl (by simp) ?_
  refine TL_y rfl rfl (Y_pick_f rfl rfl) ?_
  refine TL_nil ?_
  refine T_cond_false rfl ?_
  refine T_skip ?_
  refine thenS_normal ?_
  refine T_seq ?_
  refine T_region ?_
  refine TL_y rfl rfl (Y_load rfl rfl) ?_
  refine TL_call rfl rfl (vvMay_spec sln) ?_
  rintro _ _ ⟨rfl, rfl⟩
  refine TL_y rfl rfl (Y_not_d rfl) ?_
  refine TL_both 5 32 (¬ mayV v ∨ 4000 < ys.length) ?_ ?_
  · refine TL_y rfl rfl (Y_move rfl) ?_
    refine TL_splitd 28 rfl (fun h28 => ?_) (fun h28 => ?_)
    · refine TL_gskip rfl rfl rfl rfl ?_
      refine TL_gskip rfl rfl rfl rfl ?_
      refine TL_gskip rfl rfl rfl rfl ?_
      refine TL_y rfl rfl (Y_pick_t rfl rfl) ?_
      refine TL_chain_end rfl ?_ (by repeat (first | exact sub_refl | refine sub_ext rfl ?_)) GivesTo.g
      exact congrArg Value.bool (decide_eq_true (by simp_all <;> omega)).symm
    · refine TL_grun rfl rfl ?_
      refine TL_y rfl rfl (Y_move rfl) ?_
      refine TL_grun rfl rfl ?_
      refine TL_y rfl rfl (Y_len rfl) ?_
      refine TL_grun rfl rfl ?_
      refine TL_y rfl rfl (Y_gt rfl rfl) ?_
      refine TL_y rfl rfl (Y_pick_f rfl rfl) ?_
      refine TL_chain_end rfl ?_ (by repeat (first | exact sub_refl | refine sub_ext rfl ?_)) GivesTo.g
      exact congrArg Value.bool (decide_eq_decide.2 (by simp_all <;> omega))
  refine TL_nil ?_
  refine T_if rfl (fun h32 => ?_) (fun h32 => ?_)
  · refine T_region ?_
    refine TL_store rfl rfl rfl rfl rfl rfl ?_
    refine TL_nil ?_
    refine T_ret ?_
    refine thenS_ret ?_
    refine retM0 ?_
    exact RetG_1 (.inl rfl) rfl (ResV.cell rfl rfl) GivesTo.g (⟨rfl, rfl⟩)
  · simp only [not_or, Classical.not_not] at h32
    obtain ⟨hmv, hy4⟩ := h32
    have hm1 := hmv.1
    refine T_skip ?_
    refine thenS_normal ?_
    refine T_seq ?_
    refine T_region ?_
    refine TL_y rfl rfl (Y_assign rfl) ?_
    refine TL_nil ?_
    refine T_block ?_
    refine T_loopK (σ := FlSt) [0, 3, 4, 5] (fun g => g.i ≤ ys.length ∧ g.lc.length ≤ g.i) (fun g kv => (6, .int .i64 (g.i : Int)) :: kv) (fun g => cells b5 [.pointer (some ⟨b18, 0, none⟩)] 25 :: dsSTR b18 p18 g.lc :: cells b3 [.slice Av v.length cv] 38 :: cells b4 [.bool false] 4 :: sl (intR .i64) Av cv v :: sl pairR A c ys :: L) (fun g => ys.length - g.i) (⟨0, []⟩) rfl (⟨Nat.zero_le _, Nat.zero_le _⟩) (GivesTo.g) (sub_cons rfl (sub_cons rfl (sub_cons rfl (sub_cons rfl (sub_cons rfl (sub_nil)))))) ?_
    rintro ⟨i, l⟩ ⟨hi, hl⟩
    dsimp only at hi hl ⊢
    refine T_seq ?_
    refine T_region ?_
    refine TL_y rfl rfl (Y_move rfl) ?_
    refine TL_y rfl rfl (Y_move rfl) ?_
    refine TL_y rfl rfl (Y_len rfl) ?_
    refine TL_y rfl rfl (Y_lt rfl rfl) ?_
    refine TL_nil ?_
    refine T_if rfl (fun h36 => ?_) (fun h36 => ?_)
    · refine T_skip ?_
      refine thenS_normal ?_
      refine T_seq ?_
      refine T_block ?_
      obtain ⟨u, hu⟩ : ∃ u, ys[i]? = some u := ⟨_, List.getElem?_eq_getElem (by omega)⟩
      refine T_elem_fact (sln (A := A) (c := c) (R := pairR)) hu (fun M l h => h.2) fun hou => ?_
      refine T_addr_n (sln (A := A) (c := c) (R := pairR)) hu fun bq oq eq => ?_
      subst eq
      refine T_region_draw_last _ [0, 0, 0, 6, 14, 30, 0, 0, 192, 448, 960, 2047] [11] [(0, true), (1, true), (2, true), (3, true), (4, true), (5, true), (6, true), (7, true), (8, true), (9, true), (10, true), (11, false)] (by kernel_rfl) (by decide +kernel) (Gives.refl _) ?_
      refine TF_y rfl rfl (Y_load rfl rfl) ?_
      refine TF_y rfl rfl (Y_move rfl) ?_
      refine TF_y rfl rfl (Y_move rfl) ?_
      refine TF_y rfl rfl (Y_index_n (R := pairR) (xs := ys) rfl rfl rfl hu) ?_
      refine TF_y rfl rfl (Y_field_addr2 rfl) ?_
      refine TF_y rfl rfl (Y_load_naf (R := pairR) (c := c) (xs := ys) (q := 0) (vs := dotC u.1) rfl sln hu rfl) ?_
      refine TF_y rfl rfl (Y_move rfl) ?_
      refine TF_y rfl rfl (Y_move rfl) ?_
      refine TF_y rfl rfl (Y_index_n (R := pairR) (xs := ys) rfl rfl rfl hu) ?_
      refine TF_y rfl rfl (Y_field_addr2 rfl) ?_
      refine TF_y rfl rfl (Y_load_n (R := pairR) (c := c) (xs := ys) (q := 2) rfl sln hu rfl) ?_
      refine TF_anchor rfl ?_
      refine TL_pullk b18 ?_
      refine TL_call rfl rfl (addSTR_spec u.1 u.2 hou.2) ?_
      rintro _ _ ⟨rfl, rfl⟩
      refine TF_end_tail rfl ?_
      refine TF_nil ?_
      refine inB_normal ?_
      refine thenS_normal ?_
      have hb := add_len (l := l) (d := u.1) (x := u.2)
      refine T_region_last ?_
      refine TL_y rfl rfl (Y_move rfl) ?_
      refine TL_y rfl rfl (Y_add rfl rfl (by omega)) ?_
      refine TL_name 38 (v' := .int .i64 ((i + 1 : Nat) : Int)) rfl (rfl) ?_
      refine TL_y rfl rfl (Y_assign rfl) ?_
      refine TL_nil ?_
      refine thenS_normal ?_
      exact ⟨⟨i + 1, (addS l u.1 u.2).1⟩, ⟨by simp only; omega, by simp only; omega⟩, by simp only; omega, holds_to (sub_cons rfl (sub_cons rfl (sub_cons rfl (sub_cons rfl (sub_cons rfl (sub_nil)))))) GivesTo.g⟩
    · refine T_exit ?_
      refine thenS_exit ?_
      refine thenS_exit ?_
      refine inB_hit ?_
      refine thenS_normal ?_
      refine T_pullk b18 ?_
      refine T_dsSTRI fun hil => ?_
      have hsc := split_count hil v
      have hcs := count_split l v
      have hsl := sumV_le hmv.2
      have hlen := hil.len
      refine T_region ?_
      refine TL_alloc rfl rfl ?_
      intro b7
      refine TL_store rfl rfl rfl rfl rfl rfl ?_
      refine TL_nil ?_
      refine T_seq ?_
      refine T_region ?_
      refine TL_y rfl rfl (Y_load rfl rfl) ?_
      refine TL_y rfl rfl (Y_load rfl rfl) ?_
      refine TL_call rfl rfl (uptoSTR_spec rfl rfl sln hvl) ?_
      rintro _ _ ⟨bn0, bw0, bo0, A0, c0, rfl, rfl⟩
      refine TL_y rfl rfl (Y_equal rfl rfl (EqIs.func_nil)) ?_
      refine TL_name 54 (v' := .bool false) rfl (rfl) ?_
      refine TL_nil ?_
      refine T_cond_false rfl ?_
      refine T_skip ?_
      refine thenS_normal ?_
      refine T_seq ?_
      refine T_region ?_
      refine TL_y rfl rfl (Y_load rfl rfl) ?_
      refine TL_y rfl rfl (Y_load rfl rfl) ?_
      refine TL_call rfl rfl (uptoSTR_spec rfl rfl sln hvl) ?_
      rintro _ _ ⟨bn, bw, bo, Aw, cw, rfl, rfl⟩
      refine TL_nil ?_
      refine T_block ?_
      refine T_range_iterS (fun g : KnSt => [cells b7 [.int .i64 (g.n : Int)] 3, cells b5 [.pointer (some ⟨b18, 0, none⟩)] 25, cells b3 [.slice Av v.length cv] 38, cells b4 [.bool false] 4, sl (intR .i64) Av cv v]) (knStep (fun x => hasV v x.1 ∧ getM l x.1 = some x.2)) (fun g : KnSt => g.k) (⟨0, 0, Nat.le_refl _⟩) rfl (whereSTR_iter (b := b18) (p := p18) (l := l) (bn := bn) (bw := bw) (fsw := []) (csw := [.pointer (some ⟨bo, 0, none⟩)]) (Lw := upSTR bo Aw cw v) (W := fun d => decide (hasV v d)) (fun d Lx h => upto1STR_spec d)) ((show Gives _ ([cells b7 [.int .i64 ((0 : Nat) : Int)] 3, cells b5 [.pointer (some ⟨b18, 0, none⟩)] 25, cells b3 [.slice Av v.length cv] 38, cells b4 [.bool false] 4, sl (intR .i64) Av cv v] ++ ([dsSTR b18 p18 l] ++ (whSTR b18 bn bw 73 [] [.pointer (some ⟨bo, 0, none⟩)] (upSTR bo Aw cw v) ++ L))) from GivesTo.g (L' := cells b7 [.int .i64 ((0 : Nat) : Int)] 3 :: cells b5 [.pointer (some ⟨b18, 0, none⟩)] 25 :: cells b3 [.slice Av v.length cv] 38 :: cells b4 [.bool false] 4 :: sl (intR .i64) Av cv v :: dsSTR b18 p18 l :: cells bn [.pointer (some ⟨b18, 0, none⟩)] 25 :: cells bw [.func (.func 73) #[] #[.pointer (some ⟨bo, 0, none⟩)]] 102 :: con bw (upSTR bo Aw cw v) :: L))) (by decide) (fun _ => rfl) rfl (fun s x s' h => h.1) (fun l900 b900 g x Lx hx hlt => ?_) (fun m900 xs g hseq hrun => ?_)
      · obtain ⟨kk, nn, hle⟩ := g
        dsimp only at hlt ⊢
        simp only [List.cons_append, List.nil_append]
        try simp only [List.cons_append, List.nil_append]
        refine T_region ?_
        refine TL_alloc rfl rfl ?_
        intro b8
        refine TL_store rfl rfl rfl rfl rfl rfl ?_
        refine TL_nil ?_
        refine T_region_last ?_
        refine TL_y rfl rfl (Y_assign rfl) ?_
        refine TL_nil ?_
        refine ⟨rfl, _, FindHP.g, ?_⟩
        refine T_block ?_
        refine T_region ?_
        refine TL_y rfl rfl (Y_load rfl rfl) ?_
        refine TL_y rfl rfl (Y_load_agg rfl rfl) ?_
        refine TL_pullk b18 ?_
        refine TL_call rfl rfl (getSTR_spec x.1) ?_
        rintro _ _ ⟨rfl, rfl⟩
        refine TL_y rfl rfl (Y_move rfl) ?_
        refine TL_y rfl rfl (Y_extract rfl rfl) ?_
        refine TL_y rfl rfl (Y_extract rfl rfl) ?_
        refine TL_y rfl rfl (Y_assign rfl) ?_
        refine TL_y rfl rfl (Y_assign rfl) ?_
        refine TL_nil ?_
        refine T_seq ?_
        refine T_region ?_
        refine TL_y rfl rfl (Y_load rfl rfl) ?_
        refine TL_y rfl rfl (Y_load_agg rfl rfl) ?_
        refine TL_call rfl rfl (vvHas_spec sln x.1) ?_
        rintro _ _ ⟨rfl, rfl⟩
        refine TL_y rfl rfl (Y_not_d rfl) ?_
        refine TL_both 9 78 (¬ (hasV v x.1 ∧ getM l x.1 = some x.2)) ?_ ?_
        · refine TL_y rfl rfl (Y_move rfl) ?_
          refine TL_splitd 70 rfl (fun h70 => ?_) (fun h70 => ?_)
          · refine TL_gskip rfl rfl rfl rfl ?_
            refine TL_gskip rfl rfl rfl rfl ?_
            refine TL_y rfl rfl (Y_pick_t rfl rfl) ?_
            refine TL_y rfl rfl (Y_move rfl) ?_
            refine TL_gskip rfl rfl rfl rfl ?_
            refine TL_gskip rfl rfl rfl rfl ?_
            refine TL_gskip rfl rfl rfl rfl ?_
            refine TL_y rfl rfl (Y_pick_t rfl rfl) ?_
            refine TL_chain_end rfl ?_ (by repeat (first | exact sub_refl | refine sub_ext rfl ?_)) GivesTo.g
            exact congrArg Value.bool (decide_eq_true (by cases hgx : getM l x.1 <;> simp_all [getVSTR] <;> exact ⟨fun h e => h e.symm, fun h e => h e.symm⟩)).symm
          · refine TL_grun rfl rfl ?_
            refine TL_y rfl rfl (Y_move rfl) ?_
            refine TL_grun rfl rfl ?_
            refine TL_y rfl rfl (Y_not rfl) ?_
            refine TL_y rfl rfl (Y_pick_f rfl rfl) ?_
            refine TL_y rfl rfl (Y_move rfl) ?_
            refine TL_split 74 rfl (fun h74 => ?_) (fun h74 => ?_)
            · refine TL_gskip rfl rfl rfl rfl ?_
              refine TL_gskip rfl rfl rfl rfl ?_
              refine TL_gskip rfl rfl rfl rfl ?_
              refine TL_y rfl rfl (Y_pick_t rfl rfl) ?_
              refine TL_chain_end rfl ?_ (by repeat (first | exact sub_refl | refine sub_ext rfl ?_)) GivesTo.g
              exact congrArg Value.bool (decide_eq_true (by cases hgx : getM l x.1 <;> simp_all [getVSTR] <;> exact ⟨fun h e => h e.symm, fun h e => h e.symm⟩)).symm
            · refine TL_grun rfl rfl ?_
              refine TL_y rfl rfl (Y_move rfl) ?_
              refine TL_grun rfl rfl ?_
              refine TL_y rfl rfl (Y_move rfl) ?_
              refine TL_grun rfl rfl ?_
              refine TL_y rfl rfl (Y_str_ne rfl rfl) ?_
              refine TL_y rfl rfl (Y_pick_f rfl rfl) ?_
              refine TL_chain_end rfl ?_ (by repeat (first | exact sub_refl | refine sub_ext rfl ?_)) GivesTo.g
              exact congrArg Value.bool (decide_eq_decide.2 (by cases hgx : getM l x.1 <;> simp_all [getVSTR] <;> exact ⟨fun h e => h e.symm, fun h e => h e.symm⟩))
        refine TL_nil ?_
        refine T_if rfl (fun h78 => ?_) (fun h78 => ?_)
        · refine T_region ?_
          refine TL_store rfl rfl rfl rfl rfl rfl ?_
          refine TL_nil ?_
          refine T_ret ?_
          refine thenS_ret ?_
          refine inB_ret ?_
          exact ⟨⟨kk + 1, nn, by omega⟩, some .ret, rfl, ⟨rfl, fun h => absurd h h78⟩, GivesTo.g⟩
        · refine T_skip ?_
          refine thenS_normal ?_
          refine T_region_last ?_
          refine TL_y rfl rfl (Y_load rfl rfl) ?_
          refine TL_y rfl rfl (Y_add rfl rfl (by omega)) ?_
          refine TL_name 80 (v' := .int .i64 ((nn + 1 : Nat) : Int)) rfl (rfl) ?_
          refine TL_store rfl rfl rfl rfl rfl rfl ?_
          refine TL_nil ?_
          refine inB_normal ?_
          exact ⟨⟨kk + 1, nn + 1, by omega⟩, none, rfl, ⟨rfl, fun _ => ⟨rfl, rfl⟩⟩, GivesTo.g⟩
      · have hxa := hseq.2
        obtain ⟨⟨k2, n2, hle2⟩, j⟩ := g
        obtain ⟨hj, hn2⟩ := kn_runs hrun rfl (fun x hx => by have hm := List.mem_filter.1 (hxa.subset hx); exact ⟨by simpa using hm.2, getM_of_mem hil.nd (by have := hm.1; exact this)⟩)
        dsimp only at hj hn2
        subst hj
        have hxs := hseq.1 rfl
        have hn3 : n2 = (l.filter fun q => decide (hasV v q.1)).length := by rw [hn2, hxs, Nat.zero_add]
        try simp only [List.cons_append, List.nil_append]
        refine behind_none ?_
        refine inB_normal ?_
        refine thenS_normal ?_
        refine T_region ?_
        refine TL_alloc rfl rfl ?_
        intro b12
        refine TL_store rfl rfl rfl rfl rfl rfl ?_
        refine TL_nil ?_
        refine T_seq ?_
        refine T_region ?_
        refine TL_y rfl rfl (Y_load rfl rfl) ?_
        refine TL_call rfl rfl (allSTR_spec rfl rfl) ?_
        rintro _ _ ⟨bn1, bw1, rfl, rfl⟩
        refine TL_y rfl rfl (Y_equal rfl rfl (EqIs.func_nil)) ?_
        refine TL_name 83 (v' := .bool false) rfl (rfl) ?_
        refine TL_nil ?_
        refine T_cond_false rfl ?_
        refine T_skip ?_
        refine thenS_normal ?_
        refine T_seq ?_
        refine T_region ?_
        refine TL_y rfl rfl (Y_load rfl rfl) ?_
        refine TL_call rfl rfl (allSTR_spec rfl rfl) ?_
        rintro _ _ ⟨bn2, bw2, rfl, rfl⟩
        refine TL_nil ?_
        refine T_block ?_
        refine T_range_iterS (fun g : KnSt => [cells b12 [.int .i64 (g.n : Int)] 3, cells b3 [.slice Av v.length cv] 38, sl (intR .i64) Av cv v]) (outStep v) (fun g : KnSt => g.k) (⟨0, 0, Nat.le_refl _⟩) rfl (whereSTR_iter (b := b18) (p := p18) (l := l) (bn := bn2) (bw := bw2) (fsw := []) (csw := []) (Lw := pure True) (W := fun _ => true) (fun d Lx h => all1STR_spec d)) ((show Gives _ ([cells b12 [.int .i64 ((0 : Nat) : Int)] 3, cells b3 [.slice Av v.length cv] 38, sl (intR .i64) Av cv v] ++ ([dsSTR b18 p18 l] ++ (whSTR b18 bn2 bw2 72 [] [] (pure True) ++ (own0 m900 :: cells b7 [.int .i64 (n2 : Int)] 3 :: cells b5 [.pointer (some ⟨b18, 0, none⟩)] 25 :: cells b4 [.bool false] 4 :: L)))) from GivesTo.g (L' := cells b12 [.int .i64 ((0 : Nat) : Int)] 3 :: cells b3 [.slice Av v.length cv] 38 :: sl (intR .i64) Av cv v :: dsSTR b18 p18 l :: cells bn2 [.pointer (some ⟨b18, 0, none⟩)] 25 :: cells bw2 [.func (.func 72) #[] #[]] 102 :: con bw2 (pure True) :: own0 m900 :: cells b7 [.int .i64 (n2 : Int)] 3 :: cells b5 [.pointer (some ⟨b18, 0, none⟩)] 25 :: cells b4 [.bool false] 4 :: L))) (by decide) (fun _ => rfl) rfl (fun s x s' h => h.2.1) (fun l901 b901 g x Lx hx hlt => ?_) (fun m901 xs g hseq hrun => ?_)
        · obtain ⟨kk, nn, hle⟩ := g
          dsimp only at hlt ⊢
          simp only [List.cons_append, List.nil_append]
          try simp only [List.cons_append, List.nil_append]
          refine T_region_last ?_
          refine TL_alloc rfl rfl ?_
          intro b13
          refine TL_store rfl rfl rfl rfl rfl rfl ?_
          refine TL_nil ?_
          refine ⟨rfl, _, FindHP.g, ?_⟩
          refine T_block ?_
          refine T_region ?_
          refine TL_y rfl rfl (Y_load rfl rfl) ?_
          refine TL_y rfl rfl (Y_load_agg rfl rfl) ?_
          refine TL_call rfl rfl (vvHas_spec sln x.1) ?_
          rintro _ _ ⟨rfl, rfl⟩
          refine TL_y rfl rfl (Y_not_d rfl) ?_
          refine TL_nil ?_
          refine T_if rfl (fun h91 => ?_) (fun h91 => ?_)
          · have hxn : (if hasV v x.1 then 0 else 1) = 1 := if_neg h91
            refine T_region_last ?_
            refine TL_y rfl rfl (Y_load rfl rfl) ?_
            refine TL_y rfl rfl (Y_add rfl rfl (by omega)) ?_
            refine TL_name 93 (v' := .int .i64 ((nn + 1 : Nat) : Int)) rfl (rfl) ?_
            refine TL_store rfl rfl rfl rfl rfl rfl ?_
            refine TL_nil ?_
            refine inB_normal ?_
            exact ⟨⟨kk + 1, nn + 1, by omega⟩, none, rfl, ⟨rfl, rfl, by dsimp only; rw [hxn]⟩, GivesTo.g⟩
          · have hxn : (if hasV v x.1 then 0 else 1) = 0 := if_pos (Classical.not_not.1 h91)
            refine T_skip ?_
            refine inB_normal ?_
            exact ⟨⟨kk + 1, nn, by omega⟩, none, rfl, ⟨rfl, rfl, by dsimp only; rw [hxn]; rfl⟩, GivesTo.g⟩
        · obtain ⟨⟨k3, n3, hle3⟩, j⟩ := g
          obtain ⟨hj, hn4⟩ := out_runs hrun rfl
          dsimp only at hj hn4
          subst hj
          have hxs2 := hseq.1 rfl
          rw [filter_all] at hxs2
          rw [hxs2, Nat.zero_add] at hn4
          try simp only [List.cons_append, List.nil_append]
          refine behind_none ?_
          refine inB_normal ?_
          refine thenS_normal ?_
          refine T_region ?_
          refine TL_y rfl rfl (Y_load rfl rfl) ?_
          refine TL_y rfl rfl (Y_load rfl rfl) ?_
          refine TL_pullk b18 ?_
          refine TL_call rfl rfl (missingSTR_spec sln hvl) ?_
          rintro _ _ ⟨A96, c96, rfl, rfl⟩
          refine TL_freeze_osl ?_
          have hmd : ∀ d ∈ missD l v, d ∈ betL (vecL l) v ∧ ¬ hasD l d := fun d hd => by have := List.mem_filter.1 (List.mem_of_mem_take hd); exact ⟨this.1, by simpa using this.2⟩
          have hml : (missD l v).length = min 4096 ((betL (vecL l) v).filter fun d => !decide (hasD l d)).length := by unfold missD; rw [List.length_take]
          generalize missD l v = ms at hmd hml ⊢
          refine TL_y rfl rfl (Y_assign rfl) ?_
          refine TL_nil ?_
          refine T_seq ?_
          refine T_region ?_
          refine TL_y rfl rfl (Y_assign rfl) ?_
          refine TL_nil ?_
          refine T_block ?_
          refine T_loopK (σ := Nat) [3, 4, 5, 7, 12, 14] (fun i => i ≤ ms.length) (fun i kv => (15, .int .i64 (i : Int)) :: kv) (fun i => sl dotR A96 c96 ms :: own0 m901 :: own0 m900 :: cells b12 [.int .i64 (n3 : Int)] 3 :: dsSTR b18 p18 l :: cells b3 [.slice Av v.length cv] 38 :: sl (intR .i64) Av cv v :: cells b7 [.int .i64 (n2 : Int)] 3 :: cells b5 [.pointer (some ⟨b18, 0, none⟩)] 25 :: cells b4 [.bool false] 4 :: L) (fun i => ms.length - i) (0) rfl (Nat.zero_le _) (GivesTo.g) (sub_cons rfl (sub_cons rfl (sub_cons rfl (sub_cons rfl (sub_cons rfl (sub_cons rfl (sub_cons rfl (sub_nil)))))))) ?_
          intro i hi
          refine T_seq ?_
          refine T_region ?_
          refine TL_y rfl rfl (Y_move rfl) ?_
          refine TL_y rfl rfl (Y_move rfl) ?_
          refine TL_y rfl rfl (Y_len rfl) ?_
          refine TL_y rfl rfl (Y_lt rfl rfl) ?_
          refine TL_nil ?_
          refine T_if rfl (fun h100 => ?_) (fun h100 => ?_)
          · refine T_skip ?_
            refine thenS_normal ?_
            refine T_seq ?_
            refine T_block ?_
            obtain ⟨u, hu⟩ : ∃ u, ms[i]? = some u := ⟨_, List.getElem?_eq_getElem (by omega)⟩
            obtain ⟨hub, hun⟩ := hmd u (List.mem_of_getElem? hu)
            obtain ⟨o, ho1, ho2, ho3, ho4⟩ := mem_betL.1 hub
            have huv : hasV v u := by rw [List.getElem?_eq_getElem ho1] at ho4; simp only [Option.getD_some] at ho4; exact ⟨by omega, by rw [ho2, ofV_at (List.getElem?_eq_getElem ho1)]; exact ho4⟩
            have hnone : (getM l u).isSome = false := by unfold hasD at hun; simpa using hun
            refine T_addr_n (sln (A := A96) (c := c96) (R := dotR)) hu fun bq oq eq => ?_
            subst eq
            refine T_region_draw _ [0, 0, 0, 6, 14, 31, 63, 127, 127, 255, 1023] [] [(0, true), (1, true), (2, true), (3, true), (4, true), (5, false), (6, true), (7, true), (8, true), (9, true), (10, true)] (by kernel_rfl) (by decide +kernel) (Gives.refl _) ?_
            refine TF_y rfl rfl (Y_load rfl rfl) ?_
            refine TF_y rfl rfl (Y_move rfl) ?_
            refine TF_y rfl rfl (Y_move rfl) ?_
            refine TF_y rfl rfl (Y_index_n (R := dotR) (xs := ms) rfl rfl rfl hu) ?_
            refine TF_y rfl rfl (Y_load_naf (R := dotR) (c := c96) (xs := ms) (q := 0) (vs := dotC u) rfl sln hu rfl) ?_
            refine TF_anchor rfl ?_
            refine TL_pullk b18 ?_
            refine TL_call rfl rfl (getSTR_spec u) ?_
            rintro _ _ ⟨rfl, rfl⟩
            refine TF_end GivesTo.g ?_
            refine TF_y rfl rfl (Y_move rfl) ?_
            refine TF_y rfl rfl (Y_extract rfl rfl) ?_
            refine TF_y rfl rfl (Y_extract rfl rfl) ?_
            refine TF_name 111 (v' := .bool false) rfl (congrArg Value.bool hnone) ?_
            refine TF_y rfl rfl (Y_assign rfl) ?_
            refine TF_y rfl rfl (Y_assign rfl) ?_
            refine TF_nil ?_
            refine T_region_draw _ [0, 1, 3, 3, 3, 27, 59, 127, 255, 511] [] [(0, true), (1, true), (2, true), (3, true), (4, true), (5, true), (6, true), (7, false), (8, true), (9, true)] (by kernel_rfl) (by decide +kernel) (Gives.refl _) ?_
            refine TF_y rfl rfl (Y_move rfl) ?_
            refine TF_y rfl rfl (Y_move rfl) ?_
            refine TF_gy rfl rfl rfl rfl (Y_load rfl rfl) ?_
            refine TF_gy rfl rfl rfl rfl (Y_move rfl) ?_
            refine TF_gy rfl rfl rfl rfl (Y_move rfl) ?_
            refine TF_gy rfl rfl rfl rfl (Y_index_n (R := dotR) (xs := ms) rfl rfl rfl hu) ?_
            refine TF_gy rfl rfl rfl rfl (Y_load_naf (R := dotR) (c := c96) (xs := ms) (q := 0) (vs := dotC u) rfl sln hu rfl) ?_
            refine TF_anchor rfl ?_
            refine TL_grun rfl rfl ?_
            refine TL_call rfl rfl (vvHas_spec sln u) ?_
            rintro _ _ ⟨rfl, rfl⟩
            refine TF_end GivesTo.g ?_
            refine TF_gy rfl rfl rfl rfl (Y_not rfl) ?_
            refine TF_name 120 (v' := .bool false) rfl (congrArg Value.bool (by simp [huv])) ?_
            refine TF_y rfl rfl (Y_pick_f rfl rfl) ?_
            refine TF_nil ?_
            refine T_cond_false rfl ?_
            refine T_skip ?_
            refine inB_normal ?_
            refine thenS_normal ?_
            refine T_region_last ?_
            refine TL_y rfl rfl (Y_move rfl) ?_
            refine TL_y rfl rfl (Y_add rfl rfl (by omega)) ?_
            refine TL_name 102 (v' := .int .i64 ((i + 1 : Nat) : Int)) rfl (rfl) ?_
            refine TL_y rfl rfl (Y_assign rfl) ?_
            refine TL_nil ?_
            refine thenS_normal ?_
            exact ⟨i + 1, (by omega), by omega, holds_to (sub_cons rfl (sub_cons rfl (sub_cons rfl (sub_cons rfl (sub_cons rfl (sub_cons rfl (sub_cons rfl (sub_nil)))))))) GivesTo.g⟩
          · refine T_exit ?_
            refine thenS_exit ?_
            refine thenS_exit ?_
            refine inB_hit ?_
            refine thenS_normal ?_
            refine T_region_draw (cells b7 [.int .i64 (n2 : Int)] 3 :: cells b12 [.int .i64 (n3 : Int)] 3 :: cells b5 [.pointer (some ⟨b18, 0, none⟩)] 25 :: cells b3 [.slice Av v.length cv] 38 :: []) [0, 0, 3, 0, 8, 31, 63, 127, 255, 511, 1023, 2047, 4095, 2047, 16383, 2047, 34815, 131071, 262143, 524287, 1048575, 2097151, 4194303] [22] [(0, true), (1, true), (2, true), (3, true), (4, false), (5, true), (6, true), (7, true), (8, true), (9, true), (10, true), (11, true), (12, true), (13, true), (14, true), (15, true), (16, false), (17, true), (18, true), (19, true), (20, true), (21, true), (22, false)] (by kernel_rfl) (by decide +kernel) GivesTo.g ?_
            refine TF_y rfl rfl (Y_load rfl rfl) ?_
            refine TF_y rfl rfl (Y_load rfl rfl) ?_
            refine TF_y rfl rfl (Y_add rfl rfl (by omega)) ?_
            refine TF_y rfl rfl (Y_load rfl rfl) ?_
            refine TF_anchor rfl ?_
            refine TL_pullk b18 ?_
            refine TL_call rfl rfl (lenSTR_spec) ?_
            rintro _ _ ⟨rfl, rfl⟩
            refine TF_end GivesTo.g ?_
            refine TF_y rfl rfl (Y_eq rfl rfl) ?_
            refine TF_name 127 (v' := .bool true) rfl (congrArg Value.bool (decide_eq_true (by omega))) ?_
            refine TF_y rfl rfl (Y_move rfl) ?_
            refine TF_gy rfl rfl rfl rfl (Y_move rfl) ?_
            refine TF_gy rfl rfl rfl rfl (Y_len rfl) ?_
            refine TF_gy rfl rfl rfl rfl (Y_eq rfl rfl) ?_
            refine TF_gy rfl rfl rfl rfl (Y_move rfl) ?_
            refine TF_splitd 132 rfl (fun h132 => ?_) (fun h132 => ?_)
            · refine TF_gskip rfl rfl rfl rfl rfl ?_
              refine TF_gskip rfl rfl rfl rfl rfl ?_
              refine TF_gskip rfl rfl rfl rfl rfl ?_
              refine TF_gskip rfl rfl rfl rfl rfl ?_
              refine TF_gskip rfl rfl rfl rfl rfl ?_
              refine TF_anchor rfl ?_
              refine TL_gskip rfl rfl rfl rfl ?_
              refine TF_end GivesTo.g ?_
              refine TF_gskip rfl rfl rfl rfl rfl ?_
              refine TF_gy rfl rfl rfl rfl (Y_pick_t rfl rfl) ?_
              refine TF_y rfl rfl (Y_pick_t rfl rfl) ?_
              refine TF_y rfl rfl (Y_move rfl) ?_
              refine TF_y rfl rfl (Y_pick_t rfl rfl) ?_
              refine TF_anchor rfl ?_
              refine TL_store rfl rfl rfl rfl rfl rfl ?_
              refine TF_end_tail rfl ?_
              refine TF_nil ?_
              refine T_ret ?_
              refine retM2 ?_
              exact RetG_1 (.inl rfl) rfl (ResV.cell rfl rfl) GivesTo.g (⟨rfl, rfl⟩)
            · refine TF_gy rfl rfl rfl rfl (Y_move rfl) ?_
              refine TF_gy rfl rfl rfl rfl (Y_len rfl) ?_
              refine TF_gy rfl rfl rfl rfl (Y_load rfl rfl) ?_
              refine TF_gy rfl rfl rfl rfl (Y_add rfl rfl (by omega)) ?_
              refine TF_gy rfl rfl rfl rfl (Y_load rfl rfl) ?_
              refine TF_anchor rfl ?_
              refine TL_grun rfl rfl ?_
              refine TL_call rfl rfl (vvCount_spec sln hmv) ?_
              rintro _ _ ⟨rfl, rfl⟩
              refine TF_end GivesTo.g ?_
              refine TF_gy rfl rfl rfl rfl (Y_eq rfl rfl) ?_
              refine TF_name 139 (v' := .bool true) rfl (congrArg Value.bool (decide_eq_true (by omega))) ?_
              refine TF_gy rfl rfl rfl rfl (Y_pick_f rfl rfl) ?_
              refine TF_y rfl rfl (Y_pick_t rfl rfl) ?_
              refine TF_y rfl rfl (Y_move rfl) ?_
              refine TF_y rfl rfl (Y_pick_t rfl rfl) ?_
              refine TF_anchor rfl ?_
              refine TL_store rfl rfl rfl rfl rfl rfl ?_
              refine TF_end_tail rfl ?_
              refine TF_nil ?_
              refine T_ret ?_
              refine retM2 ?_
              exact RetG_1 (.inl rfl) rfl (ResV.cell rfl rfl) GivesTo.g (⟨rfl, rfl⟩)
end Go.SL
