/- Net: the document's Take; looks. -/
import Derived.Test.YtfmkfpgplpfkhaaNetP
import Derived.Test.YtfmkfpgplpfkhaaSlX
set_option linter.unusedVariables false
set_option linter.unusedSimpArgs false
namespace Go.SL
open Go Go.Proofs
theorem refTakeN_none {L : List HP} {b : Nat} {s : NS} (k : Int) (hi : idxN s.L k = -1) (hf : findN s.L k = none) : Fn Try.prog 15 #[.pointer (some ⟨b, 0, none⟩), .int .i64 k] (rn b s :: L) (fun v L' => v = .tuple #[packV (takeS s k).2.1, .int .i64 (takeS s k).2.2] ∧ L' = rn b (takeS s k).1 :: L) := by
  refine Fn_enter Try.func15 rfl rfl rfl rfl ?_
  refine T_region ?_
  refine TL_alloc rfl rfl ?_
  intro b4
  refine TL_y rfl rfl (Y_assign rfl) ?_
  refine TL_nil ?_
  refine T_region ?_
  refine TL_y rfl rfl (Y_move rfl) ?_
  refine TL_y rfl rfl (Y_move rfl) ?_
  refine TL_pullk b ?_
  refine TL_call rfl rfl (refFindN_spec k) ?_
  rintro _ _ ⟨rfl, rfl⟩
  refine TL_y rfl rfl (Y_assign rfl) ?_
  refine TL_nil ?_
  refine T_seq ?_
  refine T_region ?_
  refine TL_y rfl rfl (Y_move rfl) ?_
  refine TL_y rfl rfl (Y_lt rfl rfl) ?_
  refine TL_name 12 (v' := .bool true) rfl (congrArg Value.bool (decide_eq_true (by rw [hi]; decide))) ?_
  refine TL_nil ?_
  refine T_cond_true rfl ?_
  refine T_region ?_
  refine TL_y rfl rfl (Y_build rfl rfl) ?_
  refine TL_store rfl rfl rfl rfl rfl rfl ?_
  refine TL_y rfl rfl (Y_assign rfl) ?_
  refine TL_nil ?_
  refine T_ret ?_
  refine thenS_ret ?_
  have hs : takeS s k = (s, pack0, 4) := by unfold takeS; rw [hf]
  rw [hs]
  exact RetG_2 (.inl rfl) rfl (ResV.agg rfl rfl) (ResV.tmp rfl) GivesTo.g (⟨rfl, rfl⟩)
theorem refTakeN_some {L : List HP} {b : Nat} {s : NS} (k : Int) (hni : NI s) {i : Nat} {p : PackD} (hp : s.L[i]? = some p) (hpk : p.id = k) (hi : idxN s.L k = (i : Int)) (hf : findN s.L k = some p) : Fn Try.prog 15 #[.pointer (some ⟨b, 0, none⟩), .int .i64 k] (rn b s :: L) (fun v L' => v = .tuple #[packV (takeS s k).2.1, .int .i64 (takeS s k).2.2] ∧ L' = rn b (takeS s k).1 :: L) := by
  have hlen := hni.len
  have hlt := (List.getElem?_eq_some_iff.1 hp).1
  have hout := out_split hni hp
  rw [hpk] at hout
  refine Fn_enter Try.func15 rfl rfl rfl rfl ?_
  refine T_region ?_
  refine TL_alloc rfl rfl ?_
  intro b4
  refine TL_y rfl rfl (Y_assign rfl) ?_
  refine TL_nil ?_
  refine T_region ?_
  refine TL_y rfl rfl (Y_move rfl) ?_
  refine TL_y rfl rfl (Y_move rfl) ?_
  refine TL_pullk b ?_
  refine TL_call rfl rfl (refFindN_spec k) ?_
  rintro _ _ ⟨rfl, rfl⟩
  rw [hi]
  refine TL_y rfl rfl (Y_assign rfl) ?_
  refine TL_nil ?_
  refine T_seq ?_
  refine T_region ?_
  refine TL_y rfl rfl (Y_move rfl) ?_
  refine TL_y rfl rfl (Y_lt rfl rfl) ?_
  refine TL_name 12 (v' := .bool false) rfl (congrArg Value.bool (decide_eq_false (by omega))) ?_
  refine TL_nil ?_
  refine T_cond_false rfl ?_
  refine T_skip ?_
  refine thenS_normal ?_
  refine T_rn fun A c => ?_
  refine SlN.lens (sln (R := packR) (A := A) (c := c) (xs := s.L)) fun hlc => ?_
  refine T_addr_n (sln (A := A) (c := c)) hp fun bq oq eq => ?_
  subst eq
  refine T_region ?_
  refine TL_y rfl rfl (Y_move rfl) ?_
  refine TL_y rfl rfl (Y_nil_check rfl) ?_
  refine TL_y rfl rfl (Y_field_addr rfl) ?_
  refine TL_y rfl rfl (Y_load rfl rfl) ?_
  refine TL_y rfl rfl (Y_move rfl) ?_
  refine TL_y rfl rfl (Y_index_n (R := packR) (xs := s.L) rfl rfl rfl hp) ?_
  refine TL_y rfl rfl (Y_load_naf (R := packR) (c := c) (xs := s.L) (q := 0) (vs := packC p) rfl sln hp rfl) ?_
  refine TL_alloc rfl rfl ?_
  intro b7
  refine TL_store rfl rfl rfl rfl rfl rfl ?_
  refine TL_nil ?_
  refine T_region_draw (cells b [.int .i64 s.nodes, .slice (some ⟨bq, oq, none⟩) s.L.length c, .int .i64 s.last] 81 :: osl packR 36 (some ⟨bq, oq, none⟩) c s.L :: []) [0, 0, 0, 4, 12, 28, 0, 124, 254, 0, 512, 1536, 3584, 0, 8192, 32256, 65534, 131071, 262143, 524287] [19] [(0, true), (2, true), (3, true), (4, true), (5, true), (6, true), (7, true), (9, true), (10, true), (11, true), (12, true), (13, true), (14, true), (15, true), (1, false), (8, false), (16, false), (17, true), (18, true), (19, false)] (by kernel_rfl) (by decide +kernel) GivesTo.g ?_
  refine TF_y rfl rfl (Y_move rfl) ?_
  refine TF_y rfl rfl (Y_move rfl) ?_
  refine TF_y rfl rfl (Y_nil_check rfl) ?_
  refine TF_y rfl rfl (Y_field_addr rfl) ?_
  refine TF_y rfl rfl (Y_load rfl rfl) ?_
  refine TF_y rfl rfl (Y_move rfl) ?_
  refine TF_y rfl rfl (Y_cut_h rfl rfl (by omega)) ?_
  refine TF_name 28 (v' := .slice (some ⟨bq, oq, none⟩) (s.L.take i).length c) rfl (by congr 1; rw [List.length_take]; omega) ?_
  refine TF_y rfl rfl (Y_move rfl) ?_
  refine TF_y rfl rfl (Y_nil_check rfl) ?_
  refine TF_y rfl rfl (Y_field_addr rfl) ?_
  refine TF_y rfl rfl (Y_load rfl rfl) ?_
  refine TF_y rfl rfl (Y_move rfl) ?_
  refine TF_y rfl rfl (Y_add rfl rfl (by omega)) ?_
  refine TF_y rfl rfl (Y_cut_l rfl rfl (by omega)) ?_
  refine TF_name 36 (v' := .slice (cutA (some ⟨bq, oq, none⟩) (i + 1) c packR.sz) (s.L.drop (i + 1)).length (c - (i + 1))) rfl (by rw [List.length_drop]; rfl) ?_
  refine TF_anchor rfl ?_
  refine TL_build_slice rfl rfl rfl rfl rfl rfl ?_
  intro b22
  refine TL_osl (k := 0) packR [] (Knows.const fun M => rfl) rfl (by simp) ?_
  refine TL_name 22 (v' := .slice (some ⟨b22, 0, none⟩) ([] : List PackD).length 0) rfl rfl ?_
  refine TF_end GivesTo.g ?_
  refine TF_anchor rfl ?_
  refine TL_append_n (R := packR) rfl rfl rfl rfl rfl ((sln (A := some ⟨bq, oq, none⟩) (c := c) (xs := s.L)).take i) (by simp only [List.length_nil, List.length_take]; omega) ?_
  intro A29 c29
  simp only [List.nil_append]
  refine TF_end GivesTo.g ?_
  refine TF_anchor rfl ?_
  refine TL_append_n (R := packR) rfl rfl rfl rfl rfl ((sln (A := some ⟨bq, oq, none⟩) (c := c) (xs := s.L)).dropc (i := i + 1) (by omega) hlc.1) (by simp only [List.length_take, List.length_drop]; omega) ?_
  intro A37 c37
  rw [← hout]
  refine TF_end GivesTo.g ?_
  refine TF_y rfl rfl (Y_nil_check rfl) ?_
  refine TF_y rfl rfl (Y_field_addr rfl) ?_
  refine TF_anchor rfl ?_
  refine TL_store rfl rfl rfl rfl rfl rfl ?_
  refine TF_end_tail rfl ?_
  refine TF_nil ?_
  refine T_region ?_
  refine TL_y rfl rfl (Y_load_agg rfl rfl) ?_
  refine TL_store rfl rfl rfl rfl rfl rfl ?_
  refine TL_y rfl rfl (Y_assign rfl) ?_
  refine TL_nil ?_
  refine T_ret ?_
  have hs : takeS s k = (⟨s.nodes, s.last, outN s.L k⟩, p, 0) := by unfold takeS; rw [hf]
  rw [hs]
  refine RetQ.gives (rn_close (A := A37) (c := c37) b ⟨s.nodes, s.last, outN s.L k⟩) ?_
  exact RetG_2 (.inl rfl) rfl (ResV.agg rfl rfl) (ResV.tmp rfl) GivesTo.g (⟨rfl, rfl⟩)
theorem refTakeN_spec {L : List HP} {b : Nat} {s : NS} (k : Int) (hni : NI s) : Fn Try.prog 15 #[.pointer (some ⟨b, 0, none⟩), .int .i64 k] (rn b s :: L) (fun v L' => v = .tuple #[packV (takeS s k).2.1, .int .i64 (takeS s k).2.2] ∧ L' = rn b (takeS s k).1 :: L) := by
  rcases idx_case hni k with ⟨hi, hf⟩ | ⟨i, p, hp, hpk, hi, hf⟩
  · exact refTakeN_none k hi hf
  · exact refTakeN_some k hni hp hpk hi hf
theorem to1_spec {L : List HP} {bw bk : Nat} {k : Int} (p : PackD) : Fn Try.prog 62 #[packV p, .pointer (some ⟨bk, 0, none⟩)] (con bw (cells bk [.int .i64 k] 3) :: L) (fun v L' => v = .bool (decide (p.to_ = k)) ∧ L' = con bw (cells bk [.int .i64 k] 3) :: L) := by
  refine Fn_enter Try.func62 rfl rfl rfl rfl ?_
  refine T_gives (show Gives (con bw (cells bk [.int .i64 k] 3) :: L) (cells bk [.int .i64 k] 3 :: L) from Gives.refl _) ?_
  refine T_region ?_
  refine TL_box rfl rfl rfl ?_
  intro b2
  refine TL_y rfl rfl (Y_assign rfl) ?_
  refine TL_nil ?_
  refine T_region ?_
  refine TL_y rfl rfl (Y_field_addr rfl) ?_
  refine TL_y rfl rfl (Y_load rfl rfl) ?_
  refine TL_y rfl rfl (Y_load rfl rfl) ?_
  refine TL_y rfl rfl (Y_eq rfl rfl) ?_
  refine TL_y rfl rfl (Y_assign rfl) ?_
  refine TL_nil ?_
  refine T_ret ?_
  refine RetQ.gives (show Gives _ (cells bk [.int .i64 k] 3 :: L) from GivesTo.g) ?_
  refine RetQ.gives (show Gives (cells bk [.int .i64 k] 3 :: L) (con bw (cells bk [.int .i64 k] 3) :: L) from Gives.refl _) ?_
  exact RetG_1 (.inl rfl) rfl (ResV.tmp rfl) GivesTo.g (⟨rfl, rfl⟩)
/-! ### looks -/
structure LtSt where
  k : Nat
  n : Nat
  le : n ≤ k
def ltStep (m : List PackD) (r : Nat) : LS LtSt → PackD → LS LtSt → Prop := fun s x s' => s'.1.k = s.1.k + 1 ∧ (m[s.1.n]? = some x → s'.2 = (if r = 0 ∧ s.1.n = 0 then some (.exit 4) else none) ∧ s'.1.n = s.1.n + 1)
theorem lt_runs {m : List PackD} {r : Nat} {s s' : LS LtSt} {xs : List PackD} (h : Runs (ltStep m r) (fun s => !s.2.isNone) s xs s') (h0 : s.2 = none) (hm : xs <+: m.drop s.1.n) : (s'.2 = none ∧ s'.1.n = s.1.n + xs.length) ∨ (r = 0 ∧ s'.2 = some (.exit 4) ∧ s'.1.n = 1) := by
  induction h with
  | nil s => exact .inl ⟨h0, rfl⟩
  | @halt s1 s2 x xs a b =>
    obtain ⟨t, ht⟩ := hm
    have hx : m[s1.1.n]? = some x := by
      have := congrArg (·[0]?) ht
      simpa using this.symm
    obtain ⟨h1, h2⟩ := a.2 hx
    by_cases hr : r = 0 ∧ s1.1.n = 0
    · rw [if_pos hr] at h1
      exact .inr ⟨hr.1, h1, by rw [h2, hr.2]⟩
    · rw [if_neg hr] at h1; rw [h1] at b; simp at b
  | @go s1 s2 s3 x xs a b c ih =>
    obtain ⟨t, ht⟩ := hm
    have hx : m[s1.1.n]? = some x := by
      have := congrArg (·[0]?) ht
      simpa using this.symm
    obtain ⟨h1, h2⟩ := a.2 hx
    have h3 : s2.2 = none := by cases e : s2.2 with | none => rfl | some y => rw [e] at b; simp at b
    have h4 : xs <+: m.drop s2.1.n := ⟨t, by rw [h2, ← List.drop_drop, ← ht]; rfl⟩
    rcases ih h3 h4 with ⟨q1, q2⟩ | q
    · exact .inl ⟨q1, by rw [q2, h2, List.length_cons]; omega⟩
    · exact .inr q
structure LkG where
  r : Nat
  b : Nat
  bs : List Nat
theorem looks04_spec {L : List HP} {b bx : Nat} {s : NS} (k : Int) (hk : intIn .i64 k) : Fn Try.prog 21 #[.pointer (some ⟨b, 0, none⟩), .pointer (some ⟨bx, 0, none⟩), .int .i64 k] (nt b s :: rn bx s :: L) (fun v L' => v = .bool true ∧ L' = nt b s :: rn bx s :: L) := by
  refine Fn_enterM Try.func21 rfl rfl rfl rfl ?_
  refine T_region ?_
  refine TL_alloc rfl rfl ?_
  intro b6
  refine TL_nil ?_
  refine T_region ?_
  refine TL_y rfl rfl (Y_move rfl) ?_
  refine TL_pullk b ?_
  refine TL_call rfl rfl (netAll_spec) ?_
  rintro _ _ ⟨A14, c14, rfl, rfl⟩
  refine TL_freeze_osl ?_
  refine TL_y rfl rfl (Y_assign rfl) ?_
  refine TL_nil ?_
  refine T_seq ?_
  refine T_pullk b ?_
  refine T_nt fun bt hni => ?_
  refine T_gives (nt_close b s hni) ?_
  have hlen := hni.len
  refine T_pullk bx ?_
  refine T_rn fun A c => ?_
  refine T_region_draw _ [0, 1, 0, 4, 12, 28, 60, 127, 255, 511, 1023, 511, 2559, 6655, 14847, 31231, 65535, 131071] [] [(0, true), (1, true), (2, true), (3, true), (4, true), (5, true), (6, true), (7, true), (8, true), (9, true), (11, true), (12, true), (13, true), (14, true), (15, true), (10, false), (16, true), (17, true)] (by kernel_rfl) (by decide +kernel) (Gives.refl _) ?_
  refine TF_y rfl rfl (Y_move rfl) ?_
  refine TF_y rfl rfl (Y_len rfl) ?_
  refine TF_y rfl rfl (Y_move rfl) ?_
  refine TF_y rfl rfl (Y_nil_check rfl) ?_
  refine TF_y rfl rfl (Y_field_addr rfl) ?_
  refine TF_y rfl rfl (Y_load rfl rfl) ?_
  refine TF_y rfl rfl (Y_len rfl) ?_
  refine TF_y rfl rfl (Y_ne rfl rfl) ?_
  refine TF_name 22 (v' := .bool false) rfl (congrArg Value.bool (decide_eq_false (by simp))) ?_
  refine TF_y rfl rfl (Y_move rfl) ?_
  refine TF_gy rfl rfl rfl rfl (Y_move rfl) ?_
  refine TF_gy rfl rfl rfl rfl (Y_move rfl) ?_
  refine TF_gy rfl rfl rfl rfl (Y_nil_check rfl) ?_
  refine TF_gy rfl rfl rfl rfl (Y_field_addr rfl) ?_
  refine TF_gy rfl rfl rfl rfl (Y_load rfl rfl) ?_
  refine TF_gy rfl rfl rfl rfl (Y_len rfl) ?_
  refine TF_anchor rfl ?_
  refine TL_grun rfl rfl ?_
  refine TL_pullk b ?_
  refine TL_call rfl rfl (netLen_spec) ?_
  rintro _ _ ⟨rfl, rfl⟩
  refine TF_end GivesTo.g ?_
  refine TF_gy rfl rfl rfl rfl (Y_ne rfl rfl) ?_
  refine TF_name 31 (v' := .bool false) rfl (congrArg Value.bool (decide_eq_false (by simp))) ?_
  refine TF_y rfl rfl (Y_pick_f rfl rfl) ?_
  refine TF_nil ?_
  refine T_cond_false rfl ?_
  refine T_skip ?_
  refine thenS_normal ?_
  refine T_seq ?_
  refine T_region ?_
  refine TL_y rfl rfl (Y_assign rfl) ?_
  refine TL_nil ?_
  refine T_block ?_
  refine T_loopK (σ := Nat) [0, 1, 2, 6, 7] (fun i => i ≤ s.L.length) (fun i kv => (8, .int .i64 (i : Int)) :: kv) (fun i => sl packR A14 c14 s.L :: cells bx [.int .i64 s.nodes, .slice A s.L.length c, .int .i64 s.last] 81 :: osl packR 36 A c s.L :: nt b s :: cells b6 [.bool false] 4 :: L) (fun i => s.L.length - i) (0) rfl (Nat.zero_le _) (GivesTo.g) (sub_cons rfl (sub_cons rfl (sub_cons rfl (sub_cons rfl (sub_cons rfl (sub_cons rfl (sub_nil))))))) ?_
  intro i hi
  refine T_seq ?_
  refine T_region ?_
  refine TL_y rfl rfl (Y_move rfl) ?_
  refine TL_y rfl rfl (Y_move rfl) ?_
  refine TL_y rfl rfl (Y_len rfl) ?_
  refine TL_y rfl rfl (Y_lt rfl rfl) ?_
  refine TL_nil ?_
  refine T_if rfl (fun h36 => ?_) (fun h36 => ?_)
  · refine T_skip ?_
    refine thenS_normal ?_
    refine T_seq ?_
    refine T_block ?_
    obtain ⟨p, hp⟩ : ∃ p, s.L[i]? = some p := ⟨_, List.getElem?_eq_getElem (by omega)⟩
    refine T_addr_n (sln (A := A14) (c := c14)) hp fun bq oq eq => ?_
    subst eq
    refine T_addr_n (sln (A := A) (c := c)) hp fun b2 o2 eq2 => ?_
    subst eq2
    refine T_region_draw _ [0, 0, 3, 7, 0, 16, 48, 112, 0, 496, 1008, 2047] [] [(0, true), (1, true), (2, true), (3, true), (4, true), (5, true), (6, true), (7, true), (8, true), (9, true), (10, true), (11, true)] (by kernel_rfl) (by decide +kernel) (Gives.refl _) ?_
    refine TF_y rfl rfl (Y_move rfl) ?_
    refine TF_y rfl rfl (Y_move rfl) ?_
    refine TF_y rfl rfl (Y_index_n (R := packR) (xs := s.L) rfl rfl rfl hp) ?_
    refine TF_y rfl rfl (Y_load_naf (R := packR) (c := c14) (xs := s.L) (q := 0) (vs := packC p) rfl sln hp rfl) ?_
    refine TF_y rfl rfl (Y_move rfl) ?_
    refine TF_y rfl rfl (Y_nil_check rfl) ?_
    refine TF_y rfl rfl (Y_field_addr rfl) ?_
    refine TF_y rfl rfl (Y_load rfl rfl) ?_
    refine TF_y rfl rfl (Y_move rfl) ?_
    refine TF_y rfl rfl (Y_index_n (R := packR) (xs := s.L) rfl rfl rfl hp) ?_
    refine TF_y rfl rfl (Y_load_naf (R := packR) (c := c) (xs := s.L) (q := 0) (vs := packC p) rfl sln hp rfl) ?_
    refine TF_y rfl rfl (Y_ne_pack rfl rfl) ?_
    refine TF_name 50 (v' := .bool false) rfl (congrArg Value.bool (decide_eq_false (by simp))) ?_
    refine TF_nil ?_
    refine T_cond_false rfl ?_
    refine T_skip ?_
    refine inB_normal ?_
    refine thenS_normal ?_
    refine T_region_last ?_
    refine TL_y rfl rfl (Y_move rfl) ?_
    refine TL_y rfl rfl (Y_add rfl rfl (by omega)) ?_
    refine TL_name 38 (v' := .int .i64 ((i + 1 : Nat) : Int)) rfl (rfl) ?_
    refine TL_y rfl rfl (Y_assign rfl) ?_
    refine TL_nil ?_
    refine thenS_normal ?_
    exact ⟨i + 1, (by omega), by omega, holds_to (sub_cons rfl (sub_cons rfl (sub_cons rfl (sub_cons rfl (sub_cons rfl (sub_cons rfl (sub_nil))))))) GivesTo.g⟩
  · refine T_exit ?_
    refine thenS_exit ?_
    refine thenS_exit ?_
    refine inB_hit ?_
    refine thenS_normal ?_
    refine T_gives (rn_close (A := A) (c := c) bx s) ?_
    refine T_region ?_
    refine TL_y rfl rfl (Y_move rfl) ?_
    refine TL_y rfl rfl (Y_move rfl) ?_
    refine TL_pullk bx ?_
    refine TL_call rfl rfl (refToN_spec k hni) ?_
    rintro _ _ ⟨A53, c53, rfl, rfl⟩
    refine TL_freeze_osl ?_
    have hml : (toL s.L k).length ≤ 65536 := Nat.le_trans (List.length_filter_le _ _) hlen
    have hm0 : s.L.filter (fun p => decide (p.to_ = k)) = toL s.L k := rfl
    generalize toL s.L k = m at hml hm0 ⊢
    refine TL_alloc rfl rfl ?_
    intro b9
    refine TL_store rfl rfl rfl rfl rfl rfl ?_
    refine TL_nil ?_
    refine T_seq ?_
    refine T_gives owns_nil ?_
    refine T_region ?_
    refine TL_alloc rfl rfl ?_
    intro b10
    refine TL_store rfl rfl rfl rfl rfl rfl ?_
    refine TL_nil ?_
    refine T_block ?_
    refine T_loopKD (σ := LkG) [0, 2, 6, 9] (fun g => g.r ≤ 2) (fun g kv => (10, .pointer (some ⟨g.b, 0, none⟩)) :: kv) (fun g => owns g.bs :: cells g.b [.int .i64 (g.r : Int)] 3 :: cells b9 [.slice A53 m.length c53] 79 :: sl packR A53 c53 m :: nt b s :: rn bx s :: cells b6 [.bool false] 4 :: L) (fun g => (g.bs).map mark) (fun g => 2 - g.r) (⟨0, b10, []⟩) rfl (Nat.zero_le _) (GivesTo.g) rfl (sub_cons rfl (sub_cons rfl (sub_cons rfl (sub_cons rfl (sub_cons rfl (sub_nil)))))) ?_
    rintro ⟨r, br, bs⟩ hi
    dsimp only at hi ⊢
    refine T_seq ?_
    refine T_region ?_
    refine TL_y rfl rfl (Y_load rfl rfl) ?_
    refine TL_y rfl rfl (Y_lt rfl rfl) ?_
    refine TL_nil ?_
    refine T_if rfl (fun h55 => ?_) (fun h55 => ?_)
    · refine T_skip ?_
      refine thenS_normal ?_
      refine T_seq ?_
      refine T_block ?_
      refine T_region ?_
      refine TL_alloc rfl rfl ?_
      intro b11
      refine TL_store rfl rfl rfl rfl rfl rfl ?_
      refine TL_nil ?_
      refine T_seq ?_
      refine T_region ?_
      refine TL_y rfl rfl (Y_move rfl) ?_
      refine TL_y rfl rfl (Y_move rfl) ?_
      refine TL_call rfl rfl (netTo_spec k) ?_
      rintro _ _ ⟨bk0, bn0, bw0, rfl, rfl⟩
      refine TL_y rfl rfl (Y_equal rfl rfl (EqIs.func_nil)) ?_
      refine TL_name 61 (v' := .bool false) rfl (rfl) ?_
      refine TL_nil ?_
      refine T_cond_false rfl ?_
      refine T_skip ?_
      refine thenS_normal ?_
      refine T_seq ?_
      refine T_region ?_
      refine TL_y rfl rfl (Y_move rfl) ?_
      refine TL_y rfl rfl (Y_move rfl) ?_
      refine TL_call rfl rfl (netTo_spec k) ?_
      rintro _ _ ⟨bk, bn, bw, rfl, rfl⟩
      refine TL_nil ?_
      refine T_block ?_
      refine T_range_iter (fun g : LtSt => [cells b11 [.int .i64 (g.n : Int)] 3, cells br [.int .i64 (r : Int)] 3, cells b9 [.slice A53 m.length c53] 79, sl packR A53 c53 m, cells b6 [.bool false] 4]) (ltStep m r) (fun g : LtSt => g.k) (⟨0, 0, Nat.le_refl _⟩) rfl (where_iter (b := b) (bn := bn) (bw := bw) (s := s) (fsw := []) (csw := [.pointer (some ⟨bk, 0, none⟩)]) (Lw := cells bk [.int .i64 k] 3) (W := fun p => decide (p.to_ = k)) (fun p Lx h => to1_spec p)) ((show Gives _ ([cells b11 [.int .i64 ((0 : Nat) : Int)] 3, cells br [.int .i64 (r : Int)] 3, cells b9 [.slice A53 m.length c53] 79, sl packR A53 c53 m, cells b6 [.bool false] 4] ++ (whL b bn bw s 62 [] [.pointer (some ⟨bk, 0, none⟩)] (cells bk [.int .i64 k] 3) ++ (owns bs :: rn bx s :: L))) from GivesTo.g (L' := cells b11 [.int .i64 ((0 : Nat) : Int)] 3 :: cells br [.int .i64 (r : Int)] 3 :: cells b9 [.slice A53 m.length c53] 79 :: sl packR A53 c53 m :: cells b6 [.bool false] 4 :: nt b s :: cells bn [.pointer (some ⟨b, 0, none⟩)] 23 :: cells bw [.func (.func 62) #[] #[.pointer (some ⟨bk, 0, none⟩)]] 107 :: cells bk [.int .i64 k] 3 :: owns bs :: rn bx s :: L))) (by decide) (fun _ => rfl) rfl (fun s x s' h => h.1) (fun l900 b900 g x Lx hx hlt => ?_) (fun m900 xs g hseq hrun => ?_)
      · obtain ⟨kk, nn, hle⟩ := g
        dsimp only at hlt ⊢
        simp only [List.cons_append, List.nil_append]
        try simp only [List.cons_append, List.nil_append]
        refine T_region_last ?_
        refine TL_alloc rfl rfl ?_
        intro b12
        refine TL_store rfl rfl rfl rfl rfl rfl ?_
        refine TL_nil ?_
        refine ⟨rfl, _, FindHP.g, ?_⟩
        refine T_block ?_
        refine T_seq ?_
        refine Classical.byCases (p := nn < m.length) (fun hnl => ?_) (fun hnl => ?_)
        · obtain ⟨u, hu⟩ : ∃ u, m[nn]? = some u := ⟨_, List.getElem?_eq_getElem hnl⟩
          refine T_addr_n (sln (A := A53) (c := c53)) hu fun bq oq eq => ?_
          subst eq
          refine T_region_draw _ [0, 0, 2, 7, 15, 31, 31, 31, 223, 479, 1023, 2047] [] [(0, true), (1, true), (2, true), (3, true), (4, true), (5, true), (6, true), (7, true), (8, true), (9, true), (10, true), (11, true)] (by kernel_rfl) (by decide +kernel) (Gives.refl _) ?_
          refine TF_y rfl rfl (Y_load rfl rfl) ?_
          refine TF_y rfl rfl (Y_load rfl rfl) ?_
          refine TF_y rfl rfl (Y_len rfl) ?_
          refine TF_y rfl rfl (Y_ge rfl rfl) ?_
          refine TF_name 69 (v' := .bool false) rfl (congrArg Value.bool (decide_eq_false (by omega))) ?_
          refine TF_y rfl rfl (Y_move rfl) ?_
          refine TF_gy rfl rfl rfl rfl (Y_load_agg rfl rfl) ?_
          refine TF_gy rfl rfl rfl rfl (Y_load rfl rfl) ?_
          refine TF_gy rfl rfl rfl rfl (Y_load rfl rfl) ?_
          refine TF_gy rfl rfl rfl rfl (Y_index_n (R := packR) (xs := m) rfl rfl rfl hu) ?_
          refine TF_gy rfl rfl rfl rfl (Y_load_naf (R := packR) (c := c53) (xs := m) (q := 0) (vs := packC u) rfl sln hu rfl) ?_
          refine TF_gy rfl rfl rfl rfl (Y_ne_pack rfl rfl) ?_
          refine TF_y rfl rfl (Y_pick_f rfl rfl) ?_
          refine TF_nil ?_
          refine T_if rfl (fun h77 => ?_) (fun h77 => ?_)
          · refine T_region ?_
            refine TL_store rfl rfl rfl rfl rfl rfl ?_
            refine TL_nil ?_
            refine T_ret ?_
            refine thenS_ret ?_
            refine inB_ret ?_
            exact ⟨⟨kk + 1, nn, by omega⟩, some .ret, rfl, ⟨rfl, fun h => absurd (Option.some.inj (h.symm.trans hu)) h77⟩, GivesTo.g⟩
          · refine T_skip ?_
            refine thenS_normal ?_
            refine T_region ?_
            refine TL_y rfl rfl (Y_load rfl rfl) ?_
            refine TL_y rfl rfl (Y_add rfl rfl (by omega)) ?_
            refine TL_name 79 (v' := .int .i64 ((nn + 1 : Nat) : Int)) rfl (rfl) ?_
            refine TL_store rfl rfl rfl rfl rfl rfl ?_
            refine TL_nil ?_
            refine T_region ?_
            refine TL_y rfl rfl (Y_load rfl rfl) ?_
            refine TL_both 5 85 (r = 0 ∧ nn = 0) ?_ ?_
            · refine TL_y rfl rfl (Y_eq rfl rfl) ?_
              refine TL_y rfl rfl (Y_move rfl) ?_
              refine TL_splitd 82 rfl (fun h82 => ?_) (fun h82 => ?_)
              · refine TL_grun rfl rfl ?_
                refine TL_y rfl rfl (Y_load rfl rfl) ?_
                refine TL_grun rfl rfl ?_
                refine TL_y rfl rfl (Y_eq rfl rfl) ?_
                refine TL_y rfl rfl (Y_pick_t rfl rfl) ?_
                refine TL_chain_end rfl ?_ (by repeat (first | exact sub_refl | refine sub_ext rfl ?_)) GivesTo.g
                exact congrArg Value.bool (decide_eq_decide.2 (by omega))
              · refine TL_gskip rfl rfl rfl rfl ?_
                refine TL_gskip rfl rfl rfl rfl ?_
                refine TL_y rfl rfl (Y_pick_f rfl rfl) ?_
                refine TL_chain_end rfl ?_ (by repeat (first | exact sub_refl | refine sub_ext rfl ?_)) GivesTo.g
                exact congrArg Value.bool (decide_eq_false (by omega)).symm
            refine TL_nil ?_
            refine T_if rfl (fun h85 => ?_) (fun h85 => ?_)
            · refine T_exit ?_
              refine inB_miss rfl ?_
              exact ⟨⟨kk + 1, nn + 1, by omega⟩, some (.exit 4), rfl, ⟨rfl, fun _ => ⟨(if_pos h85).symm, rfl⟩⟩, GivesTo.g⟩
            · refine T_skip ?_
              refine inB_normal ?_
              exact ⟨⟨kk + 1, nn + 1, by omega⟩, none, rfl, ⟨rfl, fun _ => ⟨(if_neg h85).symm, rfl⟩⟩, GivesTo.g⟩
        · refine T_region_draw _ [0, 0, 2, 7, 15, 31, 31, 31, 223, 479, 1023, 2047] [] [(0, true), (1, true), (2, true), (3, true), (4, true), (5, true), (6, true), (7, true), (8, true), (9, true), (10, true), (11, true)] (by kernel_rfl) (by decide +kernel) (Gives.refl _) ?_
          refine TF_y rfl rfl (Y_load rfl rfl) ?_
          refine TF_y rfl rfl (Y_load rfl rfl) ?_
          refine TF_y rfl rfl (Y_len rfl) ?_
          refine TF_y rfl rfl (Y_ge rfl rfl) ?_
          refine TF_name 69 (v' := .bool true) rfl (congrArg Value.bool (decide_eq_true (by omega))) ?_
          refine TF_y rfl rfl (Y_move rfl) ?_
          refine TF_gskip rfl rfl rfl rfl rfl ?_
          refine TF_gskip rfl rfl rfl rfl rfl ?_
          refine TF_gskip rfl rfl rfl rfl rfl ?_
          refine TF_gskip rfl rfl rfl rfl rfl ?_
          refine TF_gskip rfl rfl rfl rfl rfl ?_
          refine TF_gskip rfl rfl rfl rfl rfl ?_
          refine TF_y rfl rfl (Y_pick_t rfl rfl) ?_
          refine TF_nil ?_
          refine T_cond_true rfl ?_
          refine T_region ?_
          refine TL_store rfl rfl rfl rfl rfl rfl ?_
          refine TL_nil ?_
          refine T_ret ?_
          refine thenS_ret ?_
          refine inB_ret ?_
          exact ⟨⟨kk + 1, nn, by omega⟩, some .ret, rfl, ⟨rfl, fun h => by have h2 : m[nn]? = some x := h; rw [List.getElem?_eq_none (by omega)] at h2; cases h2⟩, GivesTo.g⟩
      · rw [hm0] at hseq
        obtain ⟨⟨k2, n2, hle2⟩, j⟩ := g
        have hlr := lt_runs hrun rfl (by simpa using hseq.2)
        dsimp only at hlr
        have hend : n2 = m.length ∨ (r ≠ 1 ∧ n2 = 1) := by rcases hlr with ⟨q1, q2⟩ | ⟨q1, q2, q3⟩; (left; subst q1; rw [q2, hseq.1 rfl]; simp); (right; omega)
        try simp only [List.cons_append, List.nil_append]
        refine behind_two (id := 4) (hlr.imp (fun h => h.1) (fun h => h.2.1)) (fun hj => ?_) (fun hj => ?_)
        · refine inB_normal ?_
          refine thenS_normal ?_
          refine T_owns m900 bs ?_
          refine T_region ?_
          refine TL_y rfl rfl (Y_load rfl rfl) ?_
          refine TL_y rfl rfl (Y_load rfl rfl) ?_
          refine TL_y rfl rfl (Y_len rfl) ?_
          refine TL_both 9 97 (¬ (n2 = m.length ∨ (r ≠ 1 ∧ n2 = 1))) ?_ ?_
          · refine TL_y rfl rfl (Y_ne rfl rfl) ?_
            refine TL_y rfl rfl (Y_move rfl) ?_
            refine TL_splitd 90 rfl (fun h90 => ?_) (fun h90 => ?_)
            · refine TL_grun rfl rfl ?_
              refine TL_y rfl rfl (Y_load rfl rfl) ?_
              refine TL_grun rfl rfl ?_
              refine TL_y rfl rfl (Y_eq rfl rfl) ?_
              refine TL_grun rfl rfl ?_
              refine TL_y rfl rfl (Y_move rfl) ?_
              refine TL_splitd 93 rfl (fun h93 => ?_) (fun h93 => ?_)
              · refine TL_gskip rfl rfl rfl rfl ?_
                refine TL_gskip rfl rfl rfl rfl ?_
                refine TL_grun rfl rfl ?_
                refine TL_y rfl rfl (Y_pick_t rfl rfl) ?_
                refine TL_y rfl rfl (Y_pick_t rfl rfl) ?_
                refine TL_chain_end rfl ?_ (by repeat (first | exact sub_refl | refine sub_ext rfl ?_)) GivesTo.g
                exact congrArg Value.bool (decide_eq_true (by omega)).symm
              · refine TL_grun rfl rfl ?_
                refine TL_y rfl rfl (Y_load rfl rfl) ?_
                refine TL_grun rfl rfl ?_
                refine TL_y rfl rfl (Y_ne rfl rfl) ?_
                refine TL_grun rfl rfl ?_
                refine TL_y rfl rfl (Y_pick_f rfl rfl) ?_
                refine TL_y rfl rfl (Y_pick_t rfl rfl) ?_
                refine TL_chain_end rfl ?_ (by repeat (first | exact sub_refl | refine sub_ext rfl ?_)) GivesTo.g
                exact congrArg Value.bool (decide_eq_decide.2 (by omega))
            · refine TL_gskip rfl rfl rfl rfl ?_
              refine TL_gskip rfl rfl rfl rfl ?_
              refine TL_gskip rfl rfl rfl rfl ?_
              refine TL_gskip_u rfl rfl rfl ?_
              refine TL_gskip_u rfl rfl rfl ?_
              refine TL_gskip rfl rfl rfl rfl ?_
              refine TL_y rfl rfl (Y_pick_f rfl rfl) ?_
              refine TL_chain_end rfl ?_ (by repeat (first | exact sub_refl | refine sub_ext rfl ?_)) GivesTo.g
              exact congrArg Value.bool (decide_eq_false (by omega)).symm
          refine TL_nil ?_
          refine T_if_neg rfl (fun h => h hend) ?_
          refine T_skip ?_
          refine inB_normal ?_
          refine thenS_normal ?_
          refine T_seq ?_
          refine T_region ?_
          refine TL_y rfl rfl (Y_load rfl rfl) ?_
          refine TL_nil ?_
          refine T_region_last ?_
          refine TL_alloc rfl rfl ?_
          intro b10
          refine TL_store rfl rfl rfl rfl rfl rfl ?_
          refine TL_nil ?_
          refine thenS_normal ?_
          refine T_region_last ?_
          refine TL_y rfl rfl (Y_load rfl rfl) ?_
          refine TL_y rfl rfl (Y_add rfl rfl (by omega)) ?_
          refine TL_name 57 (v' := .int .i64 ((r + 1 : Nat) : Int)) rfl (rfl) ?_
          refine TL_store rfl rfl rfl rfl rfl rfl ?_
          refine TL_nil ?_
          refine thenS_normal ?_
          exact ⟨⟨r + 1, b10, m900 :: bs⟩, (by dsimp only; omega), by dsimp only; omega, holds_to (sub_cons rfl (sub_cons rfl (sub_cons rfl (sub_cons rfl (sub_cons rfl (sub_nil)))))) GivesTo.g⟩
        · refine inB_hit ?_
          refine thenS_normal ?_
          refine T_owns m900 bs ?_
          refine T_region ?_
          refine TL_y rfl rfl (Y_load rfl rfl) ?_
          refine TL_y rfl rfl (Y_load rfl rfl) ?_
          refine TL_y rfl rfl (Y_len rfl) ?_
          refine TL_both 9 97 (¬ (n2 = m.length ∨ (r ≠ 1 ∧ n2 = 1))) ?_ ?_
          · refine TL_y rfl rfl (Y_ne rfl rfl) ?_
            refine TL_y rfl rfl (Y_move rfl) ?_
            refine TL_splitd 90 rfl (fun h90 => ?_) (fun h90 => ?_)
            · refine TL_grun rfl rfl ?_
              refine TL_y rfl rfl (Y_load rfl rfl) ?_
              refine TL_grun rfl rfl ?_
              refine TL_y rfl rfl (Y_eq rfl rfl) ?_
              refine TL_grun rfl rfl ?_
              refine TL_y rfl rfl (Y_move rfl) ?_
              refine TL_splitd 93 rfl (fun h93 => ?_) (fun h93 => ?_)
              · refine TL_gskip rfl rfl rfl rfl ?_
                refine TL_gskip rfl rfl rfl rfl ?_
                refine TL_grun rfl rfl ?_
                refine TL_y rfl rfl (Y_pick_t rfl rfl) ?_
                refine TL_y rfl rfl (Y_pick_t rfl rfl) ?_
                refine TL_chain_end rfl ?_ (by repeat (first | exact sub_refl | refine sub_ext rfl ?_)) GivesTo.g
                exact congrArg Value.bool (decide_eq_true (by omega)).symm
              · refine TL_grun rfl rfl ?_
                refine TL_y rfl rfl (Y_load rfl rfl) ?_
                refine TL_grun rfl rfl ?_
                refine TL_y rfl rfl (Y_ne rfl rfl) ?_
                refine TL_grun rfl rfl ?_
                refine TL_y rfl rfl (Y_pick_f rfl rfl) ?_
                refine TL_y rfl rfl (Y_pick_t rfl rfl) ?_
                refine TL_chain_end rfl ?_ (by repeat (first | exact sub_refl | refine sub_ext rfl ?_)) GivesTo.g
                exact congrArg Value.bool (decide_eq_decide.2 (by omega))
            · refine TL_gskip rfl rfl rfl rfl ?_
              refine TL_gskip rfl rfl rfl rfl ?_
              refine TL_gskip rfl rfl rfl rfl ?_
              refine TL_gskip_u rfl rfl rfl ?_
              refine TL_gskip_u rfl rfl rfl ?_
              refine TL_gskip rfl rfl rfl rfl ?_
              refine TL_y rfl rfl (Y_pick_f rfl rfl) ?_
              refine TL_chain_end rfl ?_ (by repeat (first | exact sub_refl | refine sub_ext rfl ?_)) GivesTo.g
              exact congrArg Value.bool (decide_eq_false (by omega)).symm
          refine TL_nil ?_
          refine T_if_neg rfl (fun h => h hend) ?_
          refine T_skip ?_
          refine inB_normal ?_
          refine thenS_normal ?_
          refine T_seq ?_
          refine T_region ?_
          refine TL_y rfl rfl (Y_load rfl rfl) ?_
          refine TL_nil ?_
          refine T_region_last ?_
          refine TL_alloc rfl rfl ?_
          intro b10
          refine TL_store rfl rfl rfl rfl rfl rfl ?_
          refine TL_nil ?_
          refine thenS_normal ?_
          refine T_region_last ?_
          refine TL_y rfl rfl (Y_load rfl rfl) ?_
          refine TL_y rfl rfl (Y_add rfl rfl (by omega)) ?_
          refine TL_name 57 (v' := .int .i64 ((r + 1 : Nat) : Int)) rfl (rfl) ?_
          refine TL_store rfl rfl rfl rfl rfl rfl ?_
          refine TL_nil ?_
          refine thenS_normal ?_
          exact ⟨⟨r + 1, b10, m900 :: bs⟩, (by dsimp only; omega), by dsimp only; omega, holds_to (sub_cons rfl (sub_cons rfl (sub_cons rfl (sub_cons rfl (sub_cons rfl (sub_nil)))))) GivesTo.g⟩
    · refine T_exit ?_
      refine thenS_exit ?_
      refine thenS_exit ?_
      refine inB_hit ?_
      refine thenS_normal ?_
      refine T_region ?_
      refine TL_store rfl rfl rfl rfl rfl rfl ?_
      refine TL_nil ?_
      refine T_ret ?_
      refine retMs ?_
      exact RetG_1 (.inl rfl) rfl (ResV.cell rfl rfl) GivesTo.g (⟨rfl, rfl⟩)
end Go.SL
