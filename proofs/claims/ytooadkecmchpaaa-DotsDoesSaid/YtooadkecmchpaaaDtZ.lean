/- Dots: looks. -/
import Derived.Test.YtooadkecmchpaaaDtY
import Derived.Test.YtooadkecmchpaaaDtN
set_option linter.unusedVariables false
set_option linter.unusedSimpArgs false
namespace Go.SL
open Go Go.Proofs
theorem Y_load_rd {P : Program} {E : Env} {L L0 : List HP} {ty : TypeId} {b : Nat} {A : Option Addr} {c : Nat} {l : List pairD} {x : Operand} {t : TypeId} [ht : TyAgg P t false] (hx : ev E x = some (.pointer (some ⟨b, 0, none⟩))) [hf : FindK L b (rd b A c l) L0] : Yl P E L (.load t x) ty (.slice A l.length c) :=
  Yl_gives (hf.g.trans rd_open) (Y_load (l := [.slice A l.length c]) hx rfl)
theorem rd_sln {L L0 : List HP} (b : Nat) {A : Option Addr} {c : Nat} {l : List pairD} [hf : FindK L b (rd b A c l) L0] : SlN L pairR A c l := SlN.of_gives (hf.g.trans rd_open) sln
structure LtSt where
  k : Nat
  n : Nat
  le : n ≤ k
def ltS (m : List pairD) (r : Nat) : LS LtSt → pairD → LS LtSt → Prop := fun s x s' => s'.1.k = s.1.k + 1 ∧ (m[s.1.n]? = some x → s'.2 = (if r = 0 ∧ s.1.n + 1 = 2 then some (.exit 2) else none) ∧ s'.1.n = s.1.n + 1)
theorem ltS_runs {m : List pairD} {r : Nat} {s s' : LS LtSt} {xs : List pairD} (h : Runs (ltS m r) (fun s => !s.2.isNone) s xs s') (h0 : s.2 = none) (hm : xs <+: m.drop s.1.n) : (s'.2 = none ∧ s'.1.n = s.1.n + xs.length) ∨ (r = 0 ∧ s'.2 = some (.exit 2) ∧ s'.1.n = 2) := by
  induction h with
  | nil s => exact .inl ⟨h0, rfl⟩
  | @halt s1 s2 x xs a b =>
    obtain ⟨t, ht⟩ := hm
    have hx : m[s1.1.n]? = some x := by
      have := congrArg (·[0]?) ht
      simpa using this.symm
    obtain ⟨h1, h2⟩ := a.2 hx
    by_cases hr : r = 0 ∧ s1.1.n + 1 = 2
    · rw [if_pos hr] at h1
      exact .inr ⟨hr.1, h1, by rw [h2, hr.2]⟩
    · rw [if_neg hr] at h1; rw [h1] at b; simp at b
  | @go s1 s2 s3 x xs a b c ih =>
    obtain ⟨t, ht⟩ := hm
    have hx : m[s1.1.n]? = some x := by
      have := congrArg (·[0]?) ht
      simpa using this.symm
    obtain ⟨h1, h2⟩ := a.2 hx
    have h3 : s2.2 = none := by cases e : s2.2 with | none => rfl | some y => rw [e] at b; simp at b
    have h4 : xs <+: m.drop s2.1.n := ⟨t, by rw [h2, ← List.drop_drop, ← ht]; rfl⟩
    rcases ih h3 h4 with ⟨q1, q2⟩ | q
    · exact .inl ⟨q1, by rw [q2, h2, List.length_cons]; omega⟩
    · exact .inr q
structure LkG where
  r : Nat
  b : Nat
  bs : List Nat
theorem looks09_spec {L : List HP} {b bx : Nat} {p : DsSTR} {l : List pairD} {A : Option Addr} {c : Nat} {Av : Option Addr} {cv : Nat} {v : List Int} (hi : DI l) (hk : SlK L (intR .i64) Av cv v) (hvl : v.length ≤ 17592186043904) : Fn Try.prog 31 #[.pointer (some ⟨b, 0, none⟩), .pointer (some ⟨bx, 0, none⟩), .slice Av v.length cv] (dsSTR b p l :: rd bx A c l :: L) (fun r L' => r = .bool true ∧ L' = L) := by
  have hlen := hi.len
  refine Fn_enterM Try.func31 rfl rfl rfl rfl ?_
  refine T_gives (SlK.lay (SlK.of_gives GivesTo.g hk)) ?_
  refine T_region ?_
  refine TL_box rfl rfl rfl ?_
  intro b4
  refine TL_alloc rfl rfl ?_
  intro b6
  refine TL_nil ?_
  refine T_seq ?_
  refine T_region_draw _ [0, 1, 0, 4, 12, 28, 60, 127, 255, 511, 1023, 511, 4095, 8191, 16383, 32767, 65535, 131071, 262143, 131071, 1048575, 2097151, 4194303, 8388607] [] [(0, true), (2, true), (3, true), (4, true), (5, true), (6, true), (1, false), (7, true), (8, true), (9, true), (11, true), (10, false), (12, false), (13, false), (14, true), (15, true), (16, true), (17, true), (19, true), (18, false), (20, false), (21, false), (22, true), (23, true)] (by kernel_rfl) (by decide +kernel) (Gives.refl _) ?_
  refine TF_y rfl rfl (Y_move rfl) ?_
  refine TF_y rfl rfl (Y_load rfl rfl) ?_
  refine TF_y rfl rfl (Y_nil_check rfl) ?_
  refine TF_y rfl rfl (Y_field_addr rfl) ?_
  refine TF_y rfl rfl (Y_load_rd (b := bx) rfl) ?_
  refine TF_y rfl rfl (Y_len rfl) ?_
  refine TF_anchor rfl ?_
  refine TL_pullk b ?_
  refine TL_call rfl rfl (lenSTR_spec) ?_
  rintro _ _ ⟨rfl, rfl⟩
  refine TF_end GivesTo.g ?_
  refine TF_y rfl rfl (Y_ne rfl rfl) ?_
  refine TF_name 22 (v' := .bool false) rfl (congrArg Value.bool (decide_eq_false (by simp))) ?_
  refine TF_y rfl rfl (Y_move rfl) ?_
  refine TF_gy rfl rfl rfl rfl (Y_move rfl) ?_
  refine TF_gy rfl rfl rfl rfl (Y_load rfl rfl) ?_
  refine TF_anchor rfl ?_
  refine TL_grun rfl rfl ?_
  refine TL_pullk b ?_
  refine TL_call rfl rfl (vectorSTR_spec) ?_
  rintro _ _ ⟨A25, c25, rfl, rfl⟩
  refine TF_end GivesTo.g ?_
  refine TF_anchor rfl ?_
  refine TL_grun rfl rfl ?_
  refine TL_pullk bx ?_
  refine TL_call rfl rfl (refVectorD_spec hi) ?_
  rintro _ _ ⟨A27, c27, rfl, rfl⟩
  refine TF_end GivesTo.g ?_
  refine TF_anchor rfl ?_
  refine TL_grun rfl rfl ?_
  refine TL_call rfl rfl (same08D_spec (sln (A := A25) (c := c25)) (sln (A := A27) (c := c27))) ?_
  rintro _ _ ⟨rfl, rfl⟩
  refine TL_name 28 (v' := .bool true) rfl (congrArg Value.bool (decide_eq_true rfl)) ?_
  refine TF_end GivesTo.g ?_
  refine TF_gy rfl rfl rfl rfl (Y_not_t rfl) ?_
  refine TF_y rfl rfl (Y_pick_f rfl rfl) ?_
  refine TF_y rfl rfl (Y_move rfl) ?_
  refine TF_gy rfl rfl rfl rfl (Y_move rfl) ?_
  refine TF_gy rfl rfl rfl rfl (Y_load rfl rfl) ?_
  refine TF_anchor rfl ?_
  refine TL_grun rfl rfl ?_
  refine TL_pullk b ?_
  refine TL_call rfl rfl (extrasSTR_spec) ?_
  rintro _ _ ⟨A33, c33, rfl, rfl⟩
  refine TF_end GivesTo.g ?_
  refine TF_anchor rfl ?_
  refine TL_grun rfl rfl ?_
  refine TL_pullk bx ?_
  refine TL_call rfl rfl (refExtrasD_spec hi) ?_
  rintro _ _ ⟨A35, c35, rfl, rfl⟩
  refine TF_end GivesTo.g ?_
  refine TF_anchor rfl ?_
  refine TL_grun rfl rfl ?_
  refine TL_call rfl rfl (sameDots_spec (sln (A := A33) (c := c33)) (sln (A := A35) (c := c35))) ?_
  rintro _ _ ⟨rfl, rfl⟩
  refine TL_name 36 (v' := .bool true) rfl (congrArg Value.bool (decide_eq_true rfl)) ?_
  refine TF_end GivesTo.g ?_
  refine TF_gy rfl rfl rfl rfl (Y_not_t rfl) ?_
  refine TF_y rfl rfl (Y_pick_f rfl rfl) ?_
  refine TF_nil ?_
  refine T_cond_false rfl ?_
  refine T_skip ?_
  refine thenS_normal ?_
  refine T_seq ?_
  refine T_gives owns_nil ?_
  refine T_region ?_
  refine TL_alloc rfl rfl ?_
  intro b7
  refine TL_store rfl rfl rfl rfl rfl rfl ?_
  refine TL_nil ?_
  refine T_block ?_
  refine T_loopKD (σ := LkG) [0, 2, 4, 6] (fun g => g.r ≤ 2) (fun g kv => (7, .pointer (some ⟨g.b, 0, none⟩)) :: kv) (fun g => owns g.bs :: cells g.b [.int .i64 (g.r : Int)] 3 :: cells b4 [.pointer (some ⟨bx, 0, none⟩)] 48 :: dsSTR b p l :: rd bx A c l :: cells b6 [.bool false] 4 :: sl (intR .i64) Av cv v :: L) (fun g => (g.bs).map mark) (fun g => 2 - g.r) (⟨0, b7, []⟩) rfl (Nat.zero_le _) (GivesTo.g) rfl (sub_cons rfl (sub_cons rfl (sub_cons rfl (sub_cons rfl (sub_cons rfl (sub_nil)))))) ?_
  rintro ⟨r, br, bs⟩ hir
  dsimp only at hir ⊢
  refine T_seq ?_
  refine T_region ?_
  refine TL_y rfl rfl (Y_load rfl rfl) ?_
  refine TL_y rfl rfl (Y_lt rfl rfl) ?_
  refine TL_nil ?_
  refine T_if rfl (fun h40 => ?_) (fun h40 => ?_)
  · refine T_skip ?_
    refine thenS_normal ?_
    refine T_seq ?_
    refine T_block ?_
    refine T_region ?_
    refine TL_alloc rfl rfl ?_
    intro b8
    refine TL_store rfl rfl rfl rfl rfl rfl ?_
    refine TL_nil ?_
    refine T_seq ?_
    refine T_region ?_
    refine TL_y rfl rfl (Y_move rfl) ?_
    refine TL_call rfl rfl (allSTR_spec rfl rfl) ?_
    rintro _ _ ⟨bn0, bw0, rfl, rfl⟩
    refine TL_y rfl rfl (Y_equal rfl rfl (EqIs.func_nil)) ?_
    refine TL_name 45 (v' := .bool false) rfl (rfl) ?_
    refine TL_nil ?_
    refine T_cond_false rfl ?_
    refine T_skip ?_
    refine thenS_normal ?_
    refine T_seq ?_
    refine T_region ?_
    refine TL_y rfl rfl (Y_move rfl) ?_
    refine TL_call rfl rfl (allSTR_spec rfl rfl) ?_
    rintro _ _ ⟨bn, bw, rfl, rfl⟩
    refine TL_nil ?_
    refine T_block ?_
    refine T_range_iterS (fun g : LtSt => [cells b8 [.int .i64 (g.n : Int)] 3, cells br [.int .i64 (r : Int)] 3, cells b4 [.pointer (some ⟨bx, 0, none⟩)] 48, rd bx A c l, cells b6 [.bool false] 4]) (ltS l r) (fun g : LtSt => g.k) (⟨0, 0, Nat.le_refl _⟩) rfl (whereSTR_iter (b := b) (p := p) (l := l) (bn := bn) (bw := bw) (fsw := []) (csw := []) (Lw := pure True) (W := fun _ => true) (fun d Lx h => all1STR_spec d)) ((show Gives _ ([cells b8 [.int .i64 ((0 : Nat) : Int)] 3, cells br [.int .i64 (r : Int)] 3, cells b4 [.pointer (some ⟨bx, 0, none⟩)] 48, rd bx A c l, cells b6 [.bool false] 4] ++ ([dsSTR b p l] ++ (whSTR b bn bw 72 [] [] (pure True) ++ (owns bs :: sl (intR .i64) Av cv v :: L)))) from GivesTo.g (L' := cells b8 [.int .i64 ((0 : Nat) : Int)] 3 :: cells br [.int .i64 (r : Int)] 3 :: cells b4 [.pointer (some ⟨bx, 0, none⟩)] 48 :: rd bx A c l :: cells b6 [.bool false] 4 :: dsSTR b p l :: cells bn [.pointer (some ⟨b, 0, none⟩)] 25 :: cells bw [.func (.func 72) #[] #[]] 102 :: con bw (pure True) :: owns bs :: sl (intR .i64) Av cv v :: L))) (by decide) (fun _ => rfl) rfl (fun s x s' h => h.1) (fun l900 b900 g x Lx hx hlt => ?_) (fun m900 xs g hseq hrun => ?_)
    · obtain ⟨kk, nn, hle⟩ := g
      dsimp only at hlt ⊢
      simp only [List.cons_append, List.nil_append]
      try simp only [List.cons_append, List.nil_append]
      refine T_region ?_
      refine TL_alloc rfl rfl ?_
      intro b9
      refine TL_store rfl rfl rfl rfl rfl rfl ?_
      refine TL_nil ?_
      refine T_region_last ?_
      refine TL_y rfl rfl (Y_assign rfl) ?_
      refine TL_nil ?_
      refine ⟨rfl, _, FindHP.g, ?_⟩
      refine T_block ?_
      refine T_seq ?_
      refine Classical.byCases (p := nn < l.length) (fun hnl => ?_) (fun hnl => ?_)
      · obtain ⟨u, hu⟩ : ∃ u, l[nn]? = some u := ⟨_, List.getElem?_eq_getElem hnl⟩
        refine T_addr_n (rd_sln bx) hu fun bq oq eq => ?_
        subst eq
        refine T_region_draw _ [0, 0, 2, 6, 14, 30, 63, 127, 255, 511, 1023, 2047, 255, 8191, 16383, 255, 255, 98559, 262143, 524287] [] [(0, true), (1, true), (2, true), (3, true), (4, true), (5, true), (6, true), (7, true), (8, true), (9, true), (10, true), (11, true), (12, true), (13, true), (14, true), (15, true), (16, true), (17, true), (18, true), (19, true)] (by kernel_rfl) (by decide +kernel) (Gives.refl _) ?_
        refine TF_y rfl rfl (Y_load rfl rfl) ?_
        refine TF_y rfl rfl (Y_load rfl rfl) ?_
        refine TF_y rfl rfl (Y_nil_check rfl) ?_
        refine TF_y rfl rfl (Y_field_addr rfl) ?_
        refine TF_y rfl rfl (Y_load_rd (b := bx) rfl) ?_
        refine TF_y rfl rfl (Y_len rfl) ?_
        refine TF_y rfl rfl (Y_ge rfl rfl) ?_
        refine TF_name 56 (v' := .bool false) rfl (congrArg Value.bool (decide_eq_false (by omega))) ?_
        refine TF_y rfl rfl (Y_move rfl) ?_
        refine TF_gy rfl rfl rfl rfl (Y_load rfl rfl) ?_
        refine TF_gy rfl rfl rfl rfl (Y_nil_check rfl) ?_
        refine TF_gy rfl rfl rfl rfl (Y_field_addr rfl) ?_
        refine TF_gy rfl rfl rfl rfl (Y_load_rd (b := bx) rfl) ?_
        refine TF_gy rfl rfl rfl rfl (Y_load rfl rfl) ?_
        refine TF_gy rfl rfl rfl rfl (Y_index_n (R := pairR) (xs := l) rfl rfl rfl hu) ?_
        refine TF_gy rfl rfl rfl rfl (Y_load_naf (R := pairR) (c := c) (xs := l) (q := 0) (vs := pairC u) rfl (rd_sln bx) hu rfl) ?_
        refine TF_gy rfl rfl rfl rfl (Y_load_agg rfl rfl) ?_
        refine TF_gy rfl rfl rfl rfl (Y_move rfl) ?_
        refine TF_gy rfl rfl rfl rfl (Y_build rfl rfl) ?_
        refine TF_name 67 (v' := pairV x) rfl (rfl) ?_
        refine TF_gy rfl rfl rfl rfl (Y_ne_pair (a := u) (b := x) rfl rfl) ?_
        refine TF_y rfl rfl (Y_pick_f rfl rfl) ?_
        refine TF_nil ?_
        refine T_if rfl (fun h69 => ?_) (fun h69 => ?_)
        · refine T_region ?_
          refine TL_store rfl rfl rfl rfl rfl rfl ?_
          refine TL_nil ?_
          refine T_ret ?_
          refine thenS_ret ?_
          refine inB_ret ?_
          exact ⟨⟨kk + 1, nn, by omega⟩, some .ret, rfl, ⟨rfl, fun h => absurd (Option.some.inj (hu.symm.trans h)) h69⟩, GivesTo.g⟩
        · refine T_skip ?_
          refine thenS_normal ?_
          refine T_region ?_
          refine TL_y rfl rfl (Y_load rfl rfl) ?_
          refine TL_y rfl rfl (Y_add rfl rfl (by omega)) ?_
          refine TL_name 71 (v' := .int .i64 ((nn + 1 : Nat) : Int)) rfl (rfl) ?_
          refine TL_store rfl rfl rfl rfl rfl rfl ?_
          refine TL_nil ?_
          refine T_region ?_
          refine TL_y rfl rfl (Y_load rfl rfl) ?_
          refine TL_both 5 77 (r = 0 ∧ nn + 1 = 2) ?_ ?_
          · refine TL_y rfl rfl (Y_eq rfl rfl) ?_
            refine TL_y rfl rfl (Y_move rfl) ?_
            refine TL_splitd 74 rfl (fun h74 => ?_) (fun h74 => ?_)
            · refine TL_grun rfl rfl ?_
              refine TL_y rfl rfl (Y_load rfl rfl) ?_
              refine TL_grun rfl rfl ?_
              refine TL_y rfl rfl (Y_eq rfl rfl) ?_
              refine TL_y rfl rfl (Y_pick_t rfl rfl) ?_
              refine TL_chain_end rfl ?_ (by repeat (first | exact sub_refl | refine sub_ext rfl ?_)) GivesTo.g
              exact congrArg Value.bool (decide_eq_decide.2 (by omega))
            · refine TL_gskip rfl rfl rfl rfl ?_
              refine TL_gskip rfl rfl rfl rfl ?_
              refine TL_y rfl rfl (Y_pick_f rfl rfl) ?_
              refine TL_chain_end rfl ?_ (by repeat (first | exact sub_refl | refine sub_ext rfl ?_)) GivesTo.g
              exact congrArg Value.bool (decide_eq_false (by omega)).symm
          refine TL_nil ?_
          refine T_if rfl (fun h77 => ?_) (fun h77 => ?_)
          · refine T_exit ?_
            refine inB_miss rfl ?_
            exact ⟨⟨kk + 1, nn + 1, by omega⟩, some (.exit 2), rfl, ⟨rfl, fun _ => ⟨(if_pos h77).symm, rfl⟩⟩, GivesTo.g⟩
          · refine T_skip ?_
            refine inB_normal ?_
            exact ⟨⟨kk + 1, nn + 1, by omega⟩, none, rfl, ⟨rfl, fun _ => ⟨(if_neg h77).symm, rfl⟩⟩, GivesTo.g⟩
      · refine T_region_draw _ [0, 0, 2, 6, 14, 30, 63, 127, 255, 511, 1023, 2047, 255, 8191, 16383, 255, 255, 98559, 262143, 524287] [] [(0, true), (1, true), (2, true), (3, true), (4, true), (5, true), (6, true), (7, true), (8, true), (9, true), (10, true), (11, true), (12, true), (13, true), (14, true), (15, true), (16, true), (17, true), (18, true), (19, true)] (by kernel_rfl) (by decide +kernel) (Gives.refl _) ?_
        refine TF_y rfl rfl (Y_load rfl rfl) ?_
        refine TF_y rfl rfl (Y_load rfl rfl) ?_
        refine TF_y rfl rfl (Y_nil_check rfl) ?_
        refine TF_y rfl rfl (Y_field_addr rfl) ?_
        refine TF_y rfl rfl (Y_load_rd (b := bx) rfl) ?_
        refine TF_y rfl rfl (Y_len rfl) ?_
        refine TF_y rfl rfl (Y_ge rfl rfl) ?_
        refine TF_name 56 (v' := .bool true) rfl (congrArg Value.bool (decide_eq_true (by omega))) ?_
        refine TF_y rfl rfl (Y_move rfl) ?_
        refine TF_gskip rfl rfl rfl rfl rfl ?_
        refine TF_gskip rfl rfl rfl rfl rfl ?_
        refine TF_gskip rfl rfl rfl rfl rfl ?_
        refine TF_gskip rfl rfl rfl rfl rfl ?_
        refine TF_gskip rfl rfl rfl rfl rfl ?_
        refine TF_gskip rfl rfl rfl rfl rfl ?_
        refine TF_gskip rfl rfl rfl rfl rfl ?_
        refine TF_gskip rfl rfl rfl rfl rfl ?_
        refine TF_gskip rfl rfl rfl rfl rfl ?_
        refine TF_gskip rfl rfl rfl rfl rfl ?_
        refine TF_gskip rfl rfl rfl rfl rfl ?_
        refine TF_y rfl rfl (Y_pick_t rfl rfl) ?_
        refine TF_nil ?_
        refine T_cond_true rfl ?_
        refine T_region ?_
        refine TL_store rfl rfl rfl rfl rfl rfl ?_
        refine TL_nil ?_
        refine T_ret ?_
        refine thenS_ret ?_
        refine inB_ret ?_
        exact ⟨⟨kk + 1, nn, by omega⟩, some .ret, rfl, ⟨rfl, fun h => by have h2 : l[nn]? = some x := h; rw [List.getElem?_eq_none (by omega)] at h2; cases h2⟩, GivesTo.g⟩
    · rw [filter_all] at hseq
      obtain ⟨⟨k2, n2, hle2⟩, j⟩ := g
      have hlr := ltS_runs hrun rfl (by simpa using hseq.2)
      dsimp only at hlr
      have hend : n2 = l.length ∨ (r ≠ 1 ∧ n2 = 2) := by rcases hlr with ⟨q1, q2⟩ | ⟨q1, q2, q3⟩; (left; subst q1; rw [q2, hseq.1 rfl]; simp); (right; omega)
      try simp only [List.cons_append, List.nil_append]
      refine behind_two (id := 2) (hlr.imp (fun h => h.1) (fun h => h.2.1)) (fun hj => ?_) (fun hj => ?_)
      · refine inB_normal ?_
        refine thenS_normal ?_
        refine T_owns m900 bs ?_
        refine Classical.byCases (p := n2 = l.length) (fun hq => ?_) (fun hq => ?_)
        · refine T_region_draw _ [0, 0, 2, 6, 14, 30, 63, 127, 255, 511, 1023, 2047, 4095, 8191, 16383] [] [(0, true), (1, true), (2, true), (3, true), (4, true), (5, true), (6, true), (7, true), (8, true), (9, true), (10, true), (11, true), (12, true), (13, true), (14, true)] (by kernel_rfl) (by decide +kernel) (Gives.refl _) ?_
          refine TF_y rfl rfl (Y_load rfl rfl) ?_
          refine TF_y rfl rfl (Y_load rfl rfl) ?_
          refine TF_y rfl rfl (Y_nil_check rfl) ?_
          refine TF_y rfl rfl (Y_field_addr rfl) ?_
          refine TF_y rfl rfl (Y_load_rd (b := bx) rfl) ?_
          refine TF_y rfl rfl (Y_len rfl) ?_
          refine TF_y rfl rfl (Y_ne rfl rfl) ?_
          refine TF_name 84 (v' := .bool false) rfl (congrArg Value.bool (decide_eq_false (by omega))) ?_
          refine TF_y rfl rfl (Y_move rfl) ?_
          refine TF_gskip rfl rfl rfl rfl rfl ?_
          refine TF_gskip rfl rfl rfl rfl rfl ?_
          refine TF_gskip rfl rfl rfl rfl rfl ?_
          refine TF_gskip_u rfl rfl rfl rfl ?_
          refine TF_gskip_u rfl rfl rfl rfl ?_
          refine TF_gskip rfl rfl rfl rfl rfl ?_
          refine TF_y rfl rfl (Y_pick_f rfl rfl) ?_
          refine TF_nil ?_
          refine T_cond_false rfl ?_
          refine T_skip ?_
          refine inB_normal ?_
          refine thenS_normal ?_
          refine T_seq ?_
          refine T_region ?_
          refine TL_y rfl rfl (Y_load rfl rfl) ?_
          refine TL_nil ?_
          refine T_region_last ?_
          refine TL_alloc rfl rfl ?_
          intro b7
          refine TL_store rfl rfl rfl rfl rfl rfl ?_
          refine TL_nil ?_
          refine thenS_normal ?_
          refine T_region_last ?_
          refine TL_y rfl rfl (Y_load rfl rfl) ?_
          refine TL_y rfl rfl (Y_add rfl rfl (by omega)) ?_
          refine TL_name 42 (v' := .int .i64 ((r + 1 : Nat) : Int)) rfl (rfl) ?_
          refine TL_store rfl rfl rfl rfl rfl rfl ?_
          refine TL_nil ?_
          refine thenS_normal ?_
          exact ⟨⟨r + 1, b7, m900 :: bs⟩, (by dsimp only; omega), by dsimp only; omega, holds_to (sub_cons rfl (sub_cons rfl (sub_cons rfl (sub_cons rfl (sub_cons rfl (sub_nil)))))) GivesTo.g⟩
        · refine T_region_draw _ [0, 0, 2, 6, 14, 30, 63, 127, 255, 511, 1023, 2047, 4095, 8191, 16383] [] [(0, true), (1, true), (2, true), (3, true), (4, true), (5, true), (6, true), (7, true), (8, true), (9, true), (10, true), (11, true), (12, true), (13, true), (14, true)] (by kernel_rfl) (by decide +kernel) (Gives.refl _) ?_
          refine TF_y rfl rfl (Y_load rfl rfl) ?_
          refine TF_y rfl rfl (Y_load rfl rfl) ?_
          refine TF_y rfl rfl (Y_nil_check rfl) ?_
          refine TF_y rfl rfl (Y_field_addr rfl) ?_
          refine TF_y rfl rfl (Y_load_rd (b := bx) rfl) ?_
          refine TF_y rfl rfl (Y_len rfl) ?_
          refine TF_y rfl rfl (Y_ne rfl rfl) ?_
          refine TF_name 84 (v' := .bool true) rfl (congrArg Value.bool (decide_eq_true (by omega))) ?_
          refine TF_y rfl rfl (Y_move rfl) ?_
          refine TF_gy rfl rfl rfl rfl (Y_load rfl rfl) ?_
          refine TF_gy rfl rfl rfl rfl (Y_eq rfl rfl) ?_
          refine TF_name 87 (v' := .bool false) rfl (congrArg Value.bool (decide_eq_false (by omega))) ?_
          refine TF_gy rfl rfl rfl rfl (Y_move rfl) ?_
          refine TF_gy rfl rfl rfl rfl (Y_load rfl rfl) ?_
          refine TF_gy rfl rfl rfl rfl (Y_ne rfl rfl) ?_
          refine TF_name 90 (v' := .bool false) rfl (congrArg Value.bool (decide_eq_false (by omega))) ?_
          refine TF_gy rfl rfl rfl rfl (Y_pick_f rfl rfl) ?_
          refine TF_y rfl rfl (Y_pick_t rfl rfl) ?_
          refine TF_nil ?_
          refine T_cond_false rfl ?_
          refine T_skip ?_
          refine inB_normal ?_
          refine thenS_normal ?_
          refine T_seq ?_
          refine T_region ?_
          refine TL_y rfl rfl (Y_load rfl rfl) ?_
          refine TL_nil ?_
          refine T_region_last ?_
          refine TL_alloc rfl rfl ?_
          intro b7
          refine TL_store rfl rfl rfl rfl rfl rfl ?_
          refine TL_nil ?_
          refine thenS_normal ?_
          refine T_region_last ?_
          refine TL_y rfl rfl (Y_load rfl rfl) ?_
          refine TL_y rfl rfl (Y_add rfl rfl (by omega)) ?_
          refine TL_name 42 (v' := .int .i64 ((r + 1 : Nat) : Int)) rfl (rfl) ?_
          refine TL_store rfl rfl rfl rfl rfl rfl ?_
          refine TL_nil ?_
          refine thenS_normal ?_
          exact ⟨⟨r + 1, b7, m900 :: bs⟩, (by dsimp only; omega), by dsimp only; omega, holds_to (sub_cons rfl (sub_cons rfl (sub_cons rfl (sub_cons rfl (sub_cons rfl (sub_nil)))))) GivesTo.g⟩
      · refine inB_hit ?_
        refine thenS_normal ?_
        refine T_owns m900 bs ?_
        refine Classical.byCases (p := n2 = l.length) (fun hq => ?_) (fun hq => ?_)
        · refine T_region_draw _ [0, 0, 2, 6, 14, 30, 63, 127, 255, 511, 1023, 2047, 4095, 8191, 16383] [] [(0, true), (1, true), (2, true), (3, true), (4, true), (5, true), (6, true), (7, true), (8, true), (9, true), (10, true), (11, true), (12, true), (13, true), (14, true)] (by kernel_rfl) (by decide +kernel) (Gives.refl _) ?_
          refine TF_y rfl rfl (Y_load rfl rfl) ?_
          refine TF_y rfl rfl (Y_load rfl rfl) ?_
          refine TF_y rfl rfl (Y_nil_check rfl) ?_
          refine TF_y rfl rfl (Y_field_addr rfl) ?_
          refine TF_y rfl rfl (Y_load_rd (b := bx) rfl) ?_
          refine TF_y rfl rfl (Y_len rfl) ?_
          refine TF_y rfl rfl (Y_ne rfl rfl) ?_
          refine TF_name 84 (v' := .bool false) rfl (congrArg Value.bool (decide_eq_false (by omega))) ?_
          refine TF_y rfl rfl (Y_move rfl) ?_
          refine TF_gskip rfl rfl rfl rfl rfl ?_
          refine TF_gskip rfl rfl rfl rfl rfl ?_
          refine TF_gskip rfl rfl rfl rfl rfl ?_
          refine TF_gskip_u rfl rfl rfl rfl ?_
          refine TF_gskip_u rfl rfl rfl rfl ?_
          refine TF_gskip rfl rfl rfl rfl rfl ?_
          refine TF_y rfl rfl (Y_pick_f rfl rfl) ?_
          refine TF_nil ?_
          refine T_cond_false rfl ?_
          refine T_skip ?_
          refine inB_normal ?_
          refine thenS_normal ?_
          refine T_seq ?_
          refine T_region ?_
          refine TL_y rfl rfl (Y_load rfl rfl) ?_
          refine TL_nil ?_
          refine T_region_last ?_
          refine TL_alloc rfl rfl ?_
          intro b7
          refine TL_store rfl rfl rfl rfl rfl rfl ?_
          refine TL_nil ?_
          refine thenS_normal ?_
          refine T_region_last ?_
          refine TL_y rfl rfl (Y_load rfl rfl) ?_
          refine TL_y rfl rfl (Y_add rfl rfl (by omega)) ?_
          refine TL_name 42 (v' := .int .i64 ((r + 1 : Nat) : Int)) rfl (rfl) ?_
          refine TL_store rfl rfl rfl rfl rfl rfl ?_
          refine TL_nil ?_
          refine thenS_normal ?_
          exact ⟨⟨r + 1, b7, m900 :: bs⟩, (by dsimp only; omega), by dsimp only; omega, holds_to (sub_cons rfl (sub_cons rfl (sub_cons rfl (sub_cons rfl (sub_cons rfl (sub_nil)))))) GivesTo.g⟩
        · refine T_region_draw _ [0, 0, 2, 6, 14, 30, 63, 127, 255, 511, 1023, 2047, 4095, 8191, 16383] [] [(0, true), (1, true), (2, true), (3, true), (4, true), (5, true), (6, true), (7, true), (8, true), (9, true), (10, true), (11, true), (12, true), (13, true), (14, true)] (by kernel_rfl) (by decide +kernel) (Gives.refl _) ?_
          refine TF_y rfl rfl (Y_load rfl rfl) ?_
          refine TF_y rfl rfl (Y_load rfl rfl) ?_
          refine TF_y rfl rfl (Y_nil_check rfl) ?_
          refine TF_y rfl rfl (Y_field_addr rfl) ?_
          refine TF_y rfl rfl (Y_load_rd (b := bx) rfl) ?_
          refine TF_y rfl rfl (Y_len rfl) ?_
          refine TF_y rfl rfl (Y_ne rfl rfl) ?_
          refine TF_name 84 (v' := .bool true) rfl (congrArg Value.bool (decide_eq_true (by omega))) ?_
          refine TF_y rfl rfl (Y_move rfl) ?_
          refine TF_gy rfl rfl rfl rfl (Y_load rfl rfl) ?_
          refine TF_gy rfl rfl rfl rfl (Y_eq rfl rfl) ?_
          refine TF_name 87 (v' := .bool false) rfl (congrArg Value.bool (decide_eq_false (by omega))) ?_
          refine TF_gy rfl rfl rfl rfl (Y_move rfl) ?_
          refine TF_gy rfl rfl rfl rfl (Y_load rfl rfl) ?_
          refine TF_gy rfl rfl rfl rfl (Y_ne rfl rfl) ?_
          refine TF_name 90 (v' := .bool false) rfl (congrArg Value.bool (decide_eq_false (by omega))) ?_
          refine TF_gy rfl rfl rfl rfl (Y_pick_f rfl rfl) ?_
          refine TF_y rfl rfl (Y_pick_t rfl rfl) ?_
          refine TF_nil ?_
          refine T_cond_false rfl ?_
          refine T_skip ?_
          refine inB_normal ?_
          refine thenS_normal ?_
          refine T_seq ?_
          refine T_region ?_
          refine TL_y rfl rfl (Y_load rfl rfl) ?_
          refine TL_nil ?_
          refine T_region_last ?_
          refine TL_alloc rfl rfl ?_
          intro b7
          refine TL_store rfl rfl rfl rfl rfl rfl ?_
          refine TL_nil ?_
          refine thenS_normal ?_
          refine T_region_last ?_
          refine TL_y rfl rfl (Y_load rfl rfl) ?_
          refine TL_y rfl rfl (Y_add rfl rfl (by omega)) ?_
          refine TL_name 42 (v' := .int .i64 ((r + 1 : Nat) : Int)) rfl (rfl) ?_
          refine TL_store rfl rfl rfl rfl rfl rfl ?_
          refine TL_nil ?_
          refine thenS_normal ?_
          exact ⟨⟨r + 1, b7, m900 :: bs⟩, (by dsimp only; omega), by dsimp only; omega, holds_to (sub_cons rfl (sub_cons rfl (sub_cons rfl (sub_cons rfl (sub_cons rfl (sub_nil)))))) GivesTo.g⟩
  · refine T_exit ?_
    refine thenS_exit ?_
    refine thenS_exit ?_
    refine inB_hit ?_
    refine thenS_normal ?_
    refine T_region ?_
    refine TL_y rfl rfl (Y_load rfl rfl) ?_
    refine TL_y rfl rfl (Y_move rfl) ?_
    refine TL_pullk bx ?_
    refine TL_call rfl rfl (refUptoD_spec hi sln) ?_
    rintro _ _ ⟨A96, c96, rfl, rfl⟩
    refine TL_freeze_osl ?_
    refine TL_alloc rfl rfl ?_
    intro b11
    refine TL_store rfl rfl rfl rfl rfl rfl ?_
    refine TL_nil ?_
    refine T_region ?_
    refine TL_alloc rfl rfl ?_
    intro b12
    refine TL_store rfl rfl rfl rfl rfl rfl ?_
    refine TL_nil ?_
    refine T_seq ?_
    refine T_region ?_
    refine TL_y rfl rfl (Y_move rfl) ?_
    refine TL_y rfl rfl (Y_move rfl) ?_
    refine TL_call rfl rfl (uptoSTR_spec rfl rfl sln hvl) ?_
    rintro _ _ ⟨cn0, cw0, co0, C0, d0, rfl, rfl⟩
    refine TL_y rfl rfl (Y_equal rfl rfl (EqIs.func_nil)) ?_
    refine TL_name 100 (v' := .bool false) rfl (rfl) ?_
    refine TL_nil ?_
    refine T_cond_false rfl ?_
    refine T_skip ?_
    refine thenS_normal ?_
    refine T_seq ?_
    refine T_region ?_
    refine TL_y rfl rfl (Y_move rfl) ?_
    refine TL_y rfl rfl (Y_move rfl) ?_
    refine TL_call rfl rfl (uptoSTR_spec rfl rfl sln hvl) ?_
    rintro _ _ ⟨cn, cw, co, Aw, dw, rfl, rfl⟩
    refine TL_nil ?_
    refine T_block ?_
    refine T_range_iterS (fun g : LtSt => [cells b12 [.int .i64 (g.n : Int)] 3, cells b11 [.slice A96 (upD v l).length c96] 22, sl pairR A96 c96 (upD v l), cells b6 [.bool false] 4]) (ltS (upD v l) 1) (fun g : LtSt => g.k) (⟨0, 0, Nat.le_refl _⟩) rfl (whereSTR_iter (b := b) (p := p) (l := l) (bn := cn) (bw := cw) (fsw := []) (csw := [.pointer (some ⟨co, 0, none⟩)]) (Lw := upSTR co Aw dw v) (W := fun d => decide (hasV v d)) (fun d Lx h => upto1STR_spec d)) ((show Gives _ ([cells b12 [.int .i64 ((0 : Nat) : Int)] 3, cells b11 [.slice A96 (upD v l).length c96] 22, sl pairR A96 c96 (upD v l), cells b6 [.bool false] 4] ++ ([dsSTR b p l] ++ (whSTR b cn cw 73 [] [.pointer (some ⟨co, 0, none⟩)] (upSTR co Aw dw v) ++ (owns bs :: cells b4 [.pointer (some ⟨bx, 0, none⟩)] 48 :: rd bx A c l :: sl (intR .i64) Av cv v :: L)))) from GivesTo.g (L' := cells b12 [.int .i64 ((0 : Nat) : Int)] 3 :: cells b11 [.slice A96 (upD v l).length c96] 22 :: sl pairR A96 c96 (upD v l) :: cells b6 [.bool false] 4 :: dsSTR b p l :: cells cn [.pointer (some ⟨b, 0, none⟩)] 25 :: cells cw [.func (.func 73) #[] #[.pointer (some ⟨co, 0, none⟩)]] 102 :: con cw (upSTR co Aw dw v) :: owns bs :: cells b4 [.pointer (some ⟨bx, 0, none⟩)] 48 :: rd bx A c l :: sl (intR .i64) Av cv v :: L))) (by decide) (fun _ => rfl) rfl (fun s x s' h => h.1) (fun l901 b901 g x Lx hx hlt => ?_) (fun m901 xs g hseq hrun => ?_)
    · obtain ⟨kk, nn, hle⟩ := g
      dsimp only at hlt ⊢
      simp only [List.cons_append, List.nil_append]
      try simp only [List.cons_append, List.nil_append]
      refine T_region ?_
      refine TL_alloc rfl rfl ?_
      intro b13
      refine TL_store rfl rfl rfl rfl rfl rfl ?_
      refine TL_nil ?_
      refine T_region_last ?_
      refine TL_y rfl rfl (Y_assign rfl) ?_
      refine TL_nil ?_
      refine ⟨rfl, _, FindHP.g, ?_⟩
      refine T_block ?_
      refine T_seq ?_
      refine Classical.byCases (p := nn < (upD v l).length) (fun hnl => ?_) (fun hnl => ?_)
      · obtain ⟨u, hu⟩ : ∃ u, (upD v l)[nn]? = some u := ⟨_, List.getElem?_eq_getElem hnl⟩
        refine T_addr_n (sln (A := A96) (c := c96) (R := pairR)) hu fun bq oq eq => ?_
        subst eq
        refine T_region_draw _ [0, 0, 2, 7, 15, 31, 31, 127, 255, 31, 31, 1567, 4095, 8191] [] [(0, true), (1, true), (2, true), (3, true), (4, true), (5, true), (6, true), (7, true), (8, true), (9, true), (10, true), (11, true), (12, true), (13, true)] (by kernel_rfl) (by decide +kernel) (Gives.refl _) ?_
        refine TF_y rfl rfl (Y_load rfl rfl) ?_
        refine TF_y rfl rfl (Y_load rfl rfl) ?_
        refine TF_y rfl rfl (Y_len rfl) ?_
        refine TF_y rfl rfl (Y_ge rfl rfl) ?_
        refine TF_name 109 (v' := .bool false) rfl (congrArg Value.bool (decide_eq_false (by omega))) ?_
        refine TF_y rfl rfl (Y_move rfl) ?_
        refine TF_gy rfl rfl rfl rfl (Y_load rfl rfl) ?_
        refine TF_gy rfl rfl rfl rfl (Y_load rfl rfl) ?_
        refine TF_gy rfl rfl rfl rfl (Y_index_n (R := pairR) (xs := upD v l) rfl rfl rfl hu) ?_
        refine TF_gy rfl rfl rfl rfl (Y_load_naf (R := pairR) (c := c96) (xs := upD v l) (q := 0) (vs := pairC u) rfl sln hu rfl) ?_
        refine TF_gy rfl rfl rfl rfl (Y_load_agg rfl rfl) ?_
        refine TF_gy rfl rfl rfl rfl (Y_move rfl) ?_
        refine TF_gy rfl rfl rfl rfl (Y_build rfl rfl) ?_
        refine TF_name 117 (v' := pairV x) rfl (rfl) ?_
        refine TF_gy rfl rfl rfl rfl (Y_ne_pair (a := u) (b := x) rfl rfl) ?_
        refine TF_y rfl rfl (Y_pick_f rfl rfl) ?_
        refine TF_nil ?_
        refine T_if rfl (fun h119 => ?_) (fun h119 => ?_)
        · refine T_region ?_
          refine TL_store rfl rfl rfl rfl rfl rfl ?_
          refine TL_nil ?_
          refine T_ret ?_
          refine thenS_ret ?_
          refine inB_ret ?_
          exact ⟨⟨kk + 1, nn, by omega⟩, some .ret, rfl, ⟨rfl, fun h => absurd (Option.some.inj (hu.symm.trans h)) h119⟩, GivesTo.g⟩
        · refine T_skip ?_
          refine thenS_normal ?_
          refine T_region_last ?_
          refine TL_y rfl rfl (Y_load rfl rfl) ?_
          refine TL_y rfl rfl (Y_add rfl rfl (by omega)) ?_
          refine TL_name 121 (v' := .int .i64 ((nn + 1 : Nat) : Int)) rfl (rfl) ?_
          refine TL_store rfl rfl rfl rfl rfl rfl ?_
          refine TL_nil ?_
          refine inB_normal ?_
          exact ⟨⟨kk + 1, nn + 1, by omega⟩, none, rfl, ⟨rfl, fun _ => ⟨(if_neg (by simp)).symm, rfl⟩⟩, GivesTo.g⟩
      · refine T_region_draw _ [0, 0, 2, 7, 15, 31, 31, 127, 255, 31, 31, 1567, 4095, 8191] [] [(0, true), (1, true), (2, true), (3, true), (4, true), (5, true), (6, true), (7, true), (8, true), (9, true), (10, true), (11, true), (12, true), (13, true)] (by kernel_rfl) (by decide +kernel) (Gives.refl _) ?_
        refine TF_y rfl rfl (Y_load rfl rfl) ?_
        refine TF_y rfl rfl (Y_load rfl rfl) ?_
        refine TF_y rfl rfl (Y_len rfl) ?_
        refine TF_y rfl rfl (Y_ge rfl rfl) ?_
        refine TF_name 109 (v' := .bool true) rfl (congrArg Value.bool (decide_eq_true (by omega))) ?_
        refine TF_y rfl rfl (Y_move rfl) ?_
        refine TF_gskip rfl rfl rfl rfl rfl ?_
        refine TF_gskip rfl rfl rfl rfl rfl ?_
        refine TF_gskip rfl rfl rfl rfl rfl ?_
        refine TF_gskip rfl rfl rfl rfl rfl ?_
        refine TF_gskip rfl rfl rfl rfl rfl ?_
        refine TF_gskip rfl rfl rfl rfl rfl ?_
        refine TF_gskip rfl rfl rfl rfl rfl ?_
        refine TF_gskip rfl rfl rfl rfl rfl ?_
        refine TF_y rfl rfl (Y_pick_t rfl rfl) ?_
        refine TF_nil ?_
        refine T_cond_true rfl ?_
        refine T_region ?_
        refine TL_store rfl rfl rfl rfl rfl rfl ?_
        refine TL_nil ?_
        refine T_ret ?_
        refine thenS_ret ?_
        refine inB_ret ?_
        exact ⟨⟨kk + 1, nn, by omega⟩, some .ret, rfl, ⟨rfl, fun h => by have h2 : (upD v l)[nn]? = some x := h; rw [List.getElem?_eq_none (by omega)] at h2; cases h2⟩, GivesTo.g⟩
    · obtain ⟨⟨k2, n2, hle2⟩, j⟩ := g
      have hlr := ltS_runs hrun rfl (by show xs <+: (upD v l).drop 0; rw [List.drop_zero]; exact hseq.2)
      dsimp only at hlr
      obtain ⟨hj, hn2⟩ : j = none ∧ n2 = 0 + xs.length := by rcases hlr with h | ⟨q1, _⟩; exact h; cases q1
      subst hj
      have hxs : xs = upD v l := hseq.1 rfl
      rw [hxs, Nat.zero_add] at hn2
      try simp only [List.cons_append, List.nil_append]
      refine behind_none ?_
      refine inB_normal ?_
      refine thenS_normal ?_
      refine T_owns m901 bs ?_
      refine T_region_draw _ [0, 0, 2, 7, 15, 31, 31, 127, 31, 31, 1023, 2047, 4095, 8191] [13] [(0, true), (1, true), (2, true), (3, true), (4, true), (5, true), (6, true), (8, true), (9, true), (7, false), (10, false), (11, false), (12, true), (13, false)] (by kernel_rfl) (by decide +kernel) (Gives.refl _) ?_
      refine TF_y rfl rfl (Y_load rfl rfl) ?_
      refine TF_y rfl rfl (Y_load rfl rfl) ?_
      refine TF_y rfl rfl (Y_len rfl) ?_
      refine TF_y rfl rfl (Y_eq rfl rfl) ?_
      refine TF_name 125 (v' := .bool true) rfl (congrArg Value.bool (decide_eq_true (by omega))) ?_
      refine TF_y rfl rfl (Y_move rfl) ?_
      refine TF_gy rfl rfl rfl rfl (Y_move rfl) ?_
      refine TF_gy rfl rfl rfl rfl (Y_move rfl) ?_
      refine TF_gy rfl rfl rfl rfl (Y_load rfl rfl) ?_
      refine TF_gy rfl rfl rfl rfl (Y_move rfl) ?_
      refine TF_anchor rfl ?_
      refine TL_grun rfl rfl ?_
      refine TL_pullk b ?_
      refine TL_call rfl rfl (missingSTR_spec sln hvl) ?_
      rintro _ _ ⟨A129, c129, rfl, rfl⟩
      refine TF_end GivesTo.g ?_
      refine TF_anchor rfl ?_
      refine TL_grun rfl rfl ?_
      refine TL_pullk bx ?_
      refine TL_call rfl rfl (refMissingD_spec hi sln) ?_
      rintro _ _ ⟨A132, c132, rfl, rfl⟩
      refine TF_end GivesTo.g ?_
      refine TF_anchor rfl ?_
      refine TL_grun rfl rfl ?_
      refine TL_call rfl rfl (sameDots_spec (sln (A := A129) (c := c129)) (sln (A := A132) (c := c132))) ?_
      rintro _ _ ⟨rfl, rfl⟩
      refine TL_name 133 (v' := .bool true) rfl (congrArg Value.bool (decide_eq_true rfl)) ?_
      refine TF_end GivesTo.g ?_
      refine TF_y rfl rfl (Y_pick_t rfl rfl) ?_
      refine TF_anchor rfl ?_
      refine TL_store rfl rfl rfl rfl rfl rfl ?_
      refine TF_end_tail rfl ?_
      refine TF_nil ?_
      refine T_ret ?_
      show RetQM _ _ _ _ ⟨List.map mark (m901 :: bs), _, _⟩; refine retMs ?_
      exact RetG_1 (.inl rfl) rfl (ResV.cell rfl rfl) GivesTo.g (⟨rfl, rfl⟩)
end Go.SL
