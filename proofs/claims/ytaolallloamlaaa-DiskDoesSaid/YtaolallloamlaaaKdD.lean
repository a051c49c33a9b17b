/- What the laws of this claim need, together: the logic, data in memory, the walks of functions. -/
import Derived.Test.YtaolallloamlaaaKdC
import Derived.Carry
import Derived.SizedLaws
import Derived.OpenShut
import Derived.ProofKit
set_option linter.unusedVariables false
set_option linter.unusedSimpArgs false
set_option linter.unusedVariables false
set_option linter.unusedSimpArgs false
namespace Go.SL
open Go Go.Proofs
theorem rk_shut {L : List HP} {A : Option Addr} {c : Nat} {ca : Int} {L1 L2 : List HP} (b : Nat) (s : DkS) (h : s.calls = -1) [h1 : FindC L b [.int .i64 s.size, .slice A (VF s).length c, .bool false, .int .i64 ca] 36 L1] [h2 : FindO L1 A c FileD fileR 40 (VF s) L2] (ho : rkOk s ca) : Gives L (rk b s :: L2) := by
  have e : decide (s.calls ≠ -1) = false := by simp [h]
  rw [← e] at h1
  exact rk_close (h1 := h1) (h2 := h2) b s ho
theorem crash_ways {s : DkS} (hi : KI s) {t : TornD} {r : Int} (h : (r < 0 ∧ ∀ f ∈ VF s, f.name ≠ t.1) ∨ ∃ (i : Nat) (f : FileD), r = (i : Int) ∧ (VF s)[i]? = some f ∧ f.name = t.1) : (r < 0 ∧ findF s.l t.1 = none) ∨ ∃ (j : Nat) (e : FileE), r = (j : Int) ∧ s.l[j]? = some e ∧ findF s.l t.1 = some e ∧ (t.2 < 0 ∨ (0 ≤ t.2 ∧ (e.bytes.length : Int) - e.synced < t.2) ∨ (0 ≤ t.2 ∧ t.2 ≤ (e.bytes.length : Int) - e.synced)) := by
  rcases find_view hi h with h | ⟨j, e, h1, h2, _, h3⟩
  · exact .inl h
  · exact .inr ⟨j, e, h1, h2, h3, by omega⟩
theorem getM_some_of {m : List TornD} {p : TornD} (h : p ∈ m) : (getM m p.1).isSome = true := by
  cases hg : getM m p.1 with
  | none => exact absurd rfl (getM_none.1 hg p h)
  | some u => rfl
noncomputable def mixL (keep : List TornD) (l : List FileE) (i : Nat) : List FileE := (l.take i).map (cutE keep) ++ l.drop i
theorem mixL_zero (keep : List TornD) (l : List FileE) : mixL keep l 0 = l := by simp [mixL]
theorem mixL_len (keep : List TornD) (l : List FileE) (i : Nat) : (mixL keep l i).length = l.length := by
  unfold mixL; rw [List.length_append, List.length_map, List.length_take, List.length_drop]; omega
theorem mixL_at {keep : List TornD} {l : List FileE} {i : Nat} {e : FileE} (h : l[i]? = some e) : (mixL keep l i)[i]? = some e := by
  have hl := (List.getElem?_eq_some_iff.1 h).1
  unfold mixL
  rw [List.getElem?_append_right (by rw [List.length_map, List.length_take]; omega), List.length_map, List.length_take, Nat.min_eq_left (by omega), Nat.sub_self, List.getElem?_drop]
  simpa using h
theorem mixL_set {keep : List TornD} {l : List FileE} {i : Nat} {e : FileE} (h : l[i]? = some e) : (mixL keep l i).set i (cutE keep e) = mixL keep l (i + 1) := by
  have hl := (List.getElem?_eq_some_iff.1 h).1
  have hd : l.drop i = e :: l.drop (i + 1) := by
    rw [List.drop_eq_getElem_cons hl, (List.getElem?_eq_some_iff.1 h).2]
  unfold mixL
  rw [List.set_append_right _ _ (by rw [List.length_map, List.length_take]; omega), List.length_map, List.length_take, Nat.min_eq_left (by omega), Nat.sub_self, hd, List.set_cons_zero, takeAt h, List.map_append, List.append_assoc]
  rfl
theorem mixL_all (keep : List TornD) {l : List FileE} {i : Nat} (h : l.length ≤ i) : mixL keep l i = l.map (cutE keep) := by
  unfold mixL
  rw [List.take_of_length_le h, List.drop_eq_nil_of_le h, List.append_nil]
theorem kpt_step {keep : List TornD} {k : Nat} {p : TornD} (hd : keep.Pairwise fun p q => p.1 ≠ q.1) (hp : keep[k]? = some p) (name : ByteArray) : kpt (keep.take (k + 1)) name = (if p.1 = name then p.2 else kpt (keep.take k) name) ∧ (p.1 = name → kpt (keep.take k) name = 0) := by
  unfold kpt
  rw [takeAt hp, getM_append, getM_cons]
  by_cases h : p.1 = name
  · rw [if_pos h, if_pos h]
    have hn : getM (keep.take k) name = none := getM_none.2 fun q hq e => by
      obtain ⟨j, hj⟩ := List.getElem?_of_mem hq
      have hjk : j < k := by have := (List.getElem?_eq_some_iff.1 hj).1; rw [List.length_take] at this; omega
      rw [List.getElem?_take_of_lt hjk] at hj
      have h1 := (List.getElem?_eq_some_iff.1 hj)
      have h2 := (List.getElem?_eq_some_iff.1 hp)
      have := List.pairwise_iff_getElem.1 hd j k h1.1 h2.1 hjk
      rw [h1.2, h2.2] at this
      exact this (e.trans h.symm)
    rw [hn]; exact ⟨rfl, fun _ => rfl⟩
  · rw [if_neg h, if_neg h]
    refine ⟨?_, fun e => absurd e h⟩
    cases getM (keep.take k) name <;> rfl
theorem kpt_take_ok {s : DkS} {keep : List TornD} (hi : KI s) (hc : crashOk s keep) {e : FileE} (he : e ∈ s.l) (k : Nat) : 0 ≤ kpt (keep.take k) e.name ∧ kpt (keep.take k) e.name ≤ (e.bytes.length : Int) - e.synced :=
  kpt_ok hi ⟨hc.1.sublist (List.take_sublist _ _), fun t ht => hc.2 t (List.mem_of_mem_take ht)⟩ he
theorem rkCrash_spec {L : List HP} {b : Nat} {s : DkS} {A0 : Option Addr} {c0 : Nat} {keep : List TornD} (hk : SlN L tornR A0 c0 keep) : Fn Try.prog 28 #[.pointer (some ⟨b, 0, none⟩), .slice A0 keep.length c0] (rk b s :: L) (fun v L' => v = .int .i64 (if crashOk s keep then 0 else 1) ∧ L' = rk b (if crashOk s keep then crashK s keep else s) :: L) := by
  refine Fn_enter Try.func28 rfl rfl rfl rfl ?_
  refine SlN.lens hk.tail fun hkl => ?_
  simp only [maxEl] at hkl
  refine T_rk fun A c ca hok => ?_
  have hi := hok.1
  have htt := hi.tot
  have hss := hi.size
  have hln := hi.len
  refine T_region ?_
  refine TL_y rfl rfl (Y_assign rfl) ?_
  refine TL_nil ?_
  refine T_seq ?_
  refine T_region ?_
  refine TL_y rfl rfl (Y_assign rfl) ?_
  refine TL_nil ?_
  refine T_block ?_
  refine T_loopK (σ := Nat) [0, 1] (fun i => i ≤ keep.length ∧ crashOk s (keep.take i)) (fun i kv => (5, .int .i64 (i : Int)) :: kv) (fun i => rkC b s.size A (VF s).length c (decide (s.calls ≠ -1)) ca :: osl fileR 40 A c (VF s) :: L) (fun i => keep.length - i) (0) rfl (⟨Nat.zero_le _, List.Pairwise.nil, by simp⟩) (GivesTo.g) (sub_cons rfl (sub_cons rfl (sub_cons rfl (sub_nil)))) ?_
  rintro i ⟨hil, hco⟩
  refine T_seq ?_
  refine T_region ?_
  refine TL_y rfl rfl (Y_move rfl) ?_
  refine TL_y rfl rfl (Y_move rfl) ?_
  refine TL_y rfl rfl (Y_len rfl) ?_
  refine TL_y rfl rfl (Y_lt rfl rfl) ?_
  refine TL_nil ?_
  refine T_if rfl (fun h14 => ?_) (fun h14 => ?_)
  · refine T_skip ?_
    refine thenS_normal ?_
    refine T_seq ?_
    refine T_block ?_
    obtain ⟨t, ht⟩ : ∃ t, keep[i]? = some t := ⟨_, List.getElem?_eq_getElem (by omega)⟩
    have htk := takeAt ht
    have hkk : SlN (rkC b s.size A (VF s).length c (decide (s.calls ≠ -1)) ca :: osl fileR 40 A c (VF s) :: L) tornR A0 c0 keep := hk.tail.tail
    refine T_elem_fact hkk ht (fun M l h => h.2) fun hto => ?_
    refine T_addr_n hkk ht fun bq oq eq => ?_
    subst eq
    refine T_region ?_
    refine TL_y rfl rfl (Y_move rfl) ?_
    refine TL_y rfl rfl (Y_move rfl) ?_
    refine TL_y rfl rfl (Y_move rfl) ?_
    refine TL_y rfl rfl (Y_index_n (R := tornR) (xs := keep) rfl rfl rfl ht) ?_
    refine TL_y rfl rfl (Y_field_addr2 rfl) ?_
    refine TL_y rfl rfl (Y_load_n (R := tornR) (c := c0) (xs := keep) (q := 0) rfl hkk ht rfl) ?_
    refine TL_call rfl rfl (rkFind_spec t.1) ?_
    rintro _ _ ⟨⟨r, rfl, hr0⟩, rfl⟩
    refine TL_y rfl rfl (Y_assign rfl) ?_
    refine TL_nil ?_
    refine T_seq ?_
    rcases crash_ways hi hr0 with ⟨h0, hf⟩ | ⟨j, e, rfl, he, hf, hb | hb | hb⟩
    · refine T_region_draw _ [0, 1, 3, 7, 7, 31, 63, 127, 255, 511, 1023, 2047, 2047, 8191, 16383, 32767, 2047, 67583, 198655, 460799, 2047, 2033663, 4130815, 8325119, 16713727, 2047, 33556479, 100665343, 234883071, 2047, 1040189439, 2113931263, 4261414911, 8589871103, 17179869183, 34359738367] [] [(0, true), (1, true), (2, true), (3, true), (4, true), (5, true), (6, true), (7, true), (8, true), (9, true), (10, true), (11, true), (12, true), (13, true), (14, true), (15, true), (16, true), (17, true), (18, true), (19, true), (20, true), (21, true), (22, true), (23, true), (24, true), (25, true), (26, true), (27, true), (28, true), (29, true), (30, true), (31, true), (32, true), (33, true), (34, true), (35, true)] (by kernel_rfl) (by decide +kernel) (Gives.refl _) ?_
      refine TF_y rfl rfl (Y_move rfl) ?_
      refine TF_y rfl rfl (Y_lt rfl rfl) ?_
      refine TF_name 25 (v' := .bool true) rfl (congrArg Value.bool (decide_eq_true h0)) ?_
      refine TF_y rfl rfl (Y_move rfl) ?_
      refine TF_gskip rfl rfl rfl rfl rfl ?_
      refine TF_gskip rfl rfl rfl rfl rfl ?_
      refine TF_gskip rfl rfl rfl rfl rfl ?_
      refine TF_gskip rfl rfl rfl rfl rfl ?_
      refine TF_gskip rfl rfl rfl rfl rfl ?_
      refine TF_gskip rfl rfl rfl rfl rfl ?_
      refine TF_y rfl rfl (Y_pick_t rfl rfl) ?_
      refine TF_y rfl rfl (Y_move rfl) ?_
      refine TF_gskip rfl rfl rfl rfl rfl ?_
      refine TF_gskip rfl rfl rfl rfl rfl ?_
      refine TF_gskip rfl rfl rfl rfl rfl ?_
      refine TF_gskip rfl rfl rfl rfl rfl ?_
      refine TF_gskip rfl rfl rfl rfl rfl ?_
      refine TF_gskip rfl rfl rfl rfl rfl ?_
      refine TF_gskip rfl rfl rfl rfl rfl ?_
      refine TF_gskip rfl rfl rfl rfl rfl ?_
      refine TF_gskip rfl rfl rfl rfl rfl ?_
      refine TF_gskip rfl rfl rfl rfl rfl ?_
      refine TF_gskip rfl rfl rfl rfl rfl ?_
      refine TF_gskip rfl rfl rfl rfl rfl ?_
      refine TF_gskip rfl rfl rfl rfl rfl ?_
      refine TF_gskip rfl rfl rfl rfl rfl ?_
      refine TF_gskip rfl rfl rfl rfl rfl ?_
      refine TF_gskip rfl rfl rfl rfl rfl ?_
      refine TF_gskip rfl rfl rfl rfl rfl ?_
      refine TF_gskip rfl rfl rfl rfl rfl ?_
      refine TF_gskip rfl rfl rfl rfl rfl ?_
      refine TF_gskip rfl rfl rfl rfl rfl ?_
      refine TF_gskip rfl rfl rfl rfl rfl ?_
      refine TF_gskip rfl rfl rfl rfl rfl ?_
      refine TF_gskip rfl rfl rfl rfl rfl ?_
      refine TF_gskip rfl rfl rfl rfl rfl ?_
      refine TF_y rfl rfl (Y_pick_t rfl rfl) ?_
      refine TF_nil ?_
      refine T_cond_true rfl ?_
      refine T_region ?_
      refine TL_y rfl rfl (Y_assign rfl) ?_
      refine TL_nil ?_
      refine T_ret ?_
      refine thenS_ret ?_
      refine inB_ret ?_
      refine thenS_ret ?_
      refine thenS_ret ?_
      refine inB_ret ?_
      refine thenS_ret ?_
      have hnc := not_crash2 (s := s) ht (by rintro ⟨e, h1, _⟩; rw [hf] at h1; cases h1)
      rw [if_neg hnc, if_neg hnc]
      refine RetQ.gives (rk_close (A := A) (c := c) (ca := ca) b s hok) ?_
      exact RetG_1 (.inl rfl) rfl (ResV.tmp rfl) GivesTo.g (⟨rfl, rfl⟩)
    · refine T_region_draw _ [0, 1, 3, 7, 7, 31, 63, 127, 255, 511, 1023, 2047, 2047, 8191, 16383, 32767, 2047, 67583, 198655, 460799, 2047, 2033663, 4130815, 8325119, 16713727, 2047, 33556479, 100665343, 234883071, 2047, 1040189439, 2113931263, 4261414911, 8589871103, 17179869183, 34359738367] [] [(0, true), (1, true), (2, true), (3, true), (4, true), (5, true), (6, true), (7, true), (8, true), (9, true), (10, true), (11, true), (12, true), (13, true), (14, true), (15, true), (16, true), (17, true), (18, true), (19, true), (20, true), (21, true), (22, true), (23, true), (24, true), (25, true), (26, true), (27, true), (28, true), (29, true), (30, true), (31, true), (32, true), (33, true), (34, true), (35, true)] (by kernel_rfl) (by decide +kernel) (Gives.refl _) ?_
      refine TF_y rfl rfl (Y_move rfl) ?_
      refine TF_y rfl rfl (Y_lt rfl rfl) ?_
      refine TF_name 25 (v' := .bool false) rfl (congrArg Value.bool (decide_eq_false (by omega))) ?_
      refine TF_y rfl rfl (Y_move rfl) ?_
      refine TF_gy rfl rfl rfl rfl (Y_move rfl) ?_
      refine TF_gy rfl rfl rfl rfl (Y_move rfl) ?_
      refine TF_gy rfl rfl rfl rfl (Y_index_n (R := tornR) (xs := keep) rfl rfl rfl ht) ?_
      refine TF_gy rfl rfl rfl rfl (Y_field_addr2 rfl) ?_
      refine TF_gy rfl rfl rfl rfl (Y_load_n (R := tornR) (c := c0) (xs := keep) (q := 1) rfl hkk ht rfl) ?_
      refine TF_gy rfl rfl rfl rfl (Y_lt rfl rfl) ?_
      refine TF_name 32 (v' := .bool true) rfl (congrArg Value.bool (decide_eq_true hb)) ?_
      refine TF_y rfl rfl (Y_pick_f rfl rfl) ?_
      refine TF_y rfl rfl (Y_move rfl) ?_
      refine TF_gskip rfl rfl rfl rfl rfl ?_
      refine TF_gskip rfl rfl rfl rfl rfl ?_
      refine TF_gskip rfl rfl rfl rfl rfl ?_
      refine TF_gskip rfl rfl rfl rfl rfl ?_
      refine TF_gskip rfl rfl rfl rfl rfl ?_
      refine TF_gskip rfl rfl rfl rfl rfl ?_
      refine TF_gskip rfl rfl rfl rfl rfl ?_
      refine TF_gskip rfl rfl rfl rfl rfl ?_
      refine TF_gskip rfl rfl rfl rfl rfl ?_
      refine TF_gskip rfl rfl rfl rfl rfl ?_
      refine TF_gskip rfl rfl rfl rfl rfl ?_
      refine TF_gskip rfl rfl rfl rfl rfl ?_
      refine TF_gskip rfl rfl rfl rfl rfl ?_
      refine TF_gskip rfl rfl rfl rfl rfl ?_
      refine TF_gskip rfl rfl rfl rfl rfl ?_
      refine TF_gskip rfl rfl rfl rfl rfl ?_
      refine TF_gskip rfl rfl rfl rfl rfl ?_
      refine TF_gskip rfl rfl rfl rfl rfl ?_
      refine TF_gskip rfl rfl rfl rfl rfl ?_
      refine TF_gskip rfl rfl rfl rfl rfl ?_
      refine TF_gskip rfl rfl rfl rfl rfl ?_
      refine TF_gskip rfl rfl rfl rfl rfl ?_
      refine TF_gskip rfl rfl rfl rfl rfl ?_
      refine TF_gskip rfl rfl rfl rfl rfl ?_
      refine TF_y rfl rfl (Y_pick_t rfl rfl) ?_
      refine TF_nil ?_
      refine T_cond_true rfl ?_
      refine T_region ?_
      refine TL_y rfl rfl (Y_assign rfl) ?_
      refine TL_nil ?_
      refine T_ret ?_
      refine thenS_ret ?_
      refine inB_ret ?_
      refine thenS_ret ?_
      refine thenS_ret ?_
      refine inB_ret ?_
      refine thenS_ret ?_
      have hnc := not_crash2 (s := s) ht (by rintro ⟨e, h1, h2, h3⟩; omega)
      rw [if_neg hnc, if_neg hnc]
      refine RetQ.gives (rk_close (A := A) (c := c) (ca := ca) b s hok) ?_
      exact RetG_1 (.inl rfl) rfl (ResV.tmp rfl) GivesTo.g (⟨rfl, rfl⟩)
    · have hvs : (viewF e).bytes.size = e.bytes.length := str_size _
      have hoe := hi.ok e (List.mem_of_getElem? he)
      have hte := tot_mem (List.mem_of_getElem? he)
      refine T_addr_n (sln (A := A) (c := c) (R := fileR) (xs := VF s)) (vw_get he) fun bf of eq => ?_
      subst eq
      refine T_region_draw _ [0, 1, 3, 7, 7, 31, 63, 127, 255, 511, 1023, 2047, 2047, 8191, 16383, 32767, 2047, 67583, 198655, 460799, 2047, 2033663, 4130815, 8325119, 16713727, 2047, 33556479, 100665343, 234883071, 2047, 1040189439, 2113931263, 4261414911, 8589871103, 17179869183, 34359738367] [] [(0, true), (1, true), (2, true), (3, true), (4, true), (5, true), (6, true), (7, true), (8, true), (9, true), (10, true), (11, true), (12, true), (13, true), (14, true), (15, true), (16, true), (17, true), (18, true), (19, true), (20, true), (21, true), (22, true), (23, true), (24, true), (25, true), (26, true), (27, true), (28, true), (29, true), (30, true), (31, true), (32, true), (33, true), (34, true), (35, true)] (by kernel_rfl) (by decide +kernel) (Gives.refl _) ?_
      refine TF_y rfl rfl (Y_move rfl) ?_
      refine TF_y rfl rfl (Y_lt rfl rfl) ?_
      refine TF_name 25 (v' := .bool false) rfl (congrArg Value.bool (decide_eq_false (by omega))) ?_
      refine TF_y rfl rfl (Y_move rfl) ?_
      refine TF_gy rfl rfl rfl rfl (Y_move rfl) ?_
      refine TF_gy rfl rfl rfl rfl (Y_move rfl) ?_
      refine TF_gy rfl rfl rfl rfl (Y_index_n (R := tornR) (xs := keep) rfl rfl rfl ht) ?_
      refine TF_gy rfl rfl rfl rfl (Y_field_addr2 rfl) ?_
      refine TF_gy rfl rfl rfl rfl (Y_load_n (R := tornR) (c := c0) (xs := keep) (q := 1) rfl hkk ht rfl) ?_
      refine TF_gy rfl rfl rfl rfl (Y_lt rfl rfl) ?_
      refine TF_name 32 (v' := .bool false) rfl (congrArg Value.bool (decide_eq_false (by omega))) ?_
      refine TF_y rfl rfl (Y_pick_f rfl rfl) ?_
      refine TF_y rfl rfl (Y_move rfl) ?_
      refine TF_gy rfl rfl rfl rfl (Y_move rfl) ?_
      refine TF_gy rfl rfl rfl rfl (Y_move rfl) ?_
      refine TF_gy rfl rfl rfl rfl (Y_index_n (R := tornR) (xs := keep) rfl rfl rfl ht) ?_
      refine TF_gy rfl rfl rfl rfl (Y_field_addr2 rfl) ?_
      refine TF_gy rfl rfl rfl rfl (Y_load_n (R := tornR) (c := c0) (xs := keep) (q := 1) rfl hkk ht rfl) ?_
      refine TF_gy rfl rfl rfl rfl (Y_move rfl) ?_
      refine TF_gy rfl rfl rfl rfl (Y_nil_check rfl) ?_
      refine TF_gy rfl rfl rfl rfl (Y_field_addr rfl) ?_
      refine TF_gy rfl rfl rfl rfl (Y_load rfl rfl) ?_
      refine TF_gy rfl rfl rfl rfl (Y_move rfl) ?_
      refine TF_gy rfl rfl rfl rfl (Y_index_n (R := fileR) (xs := VF s) rfl rfl rfl (vw_get he)) ?_
      refine TF_gy rfl rfl rfl rfl (Y_field_addr2 rfl) ?_
      refine TF_gy rfl rfl rfl rfl (Y_load_n (R := fileR) (c := c) (xs := VF s) (q := 1) rfl sln (vw_get he) rfl) ?_
      refine TF_gy rfl rfl rfl rfl (Y_len_str rfl) ?_
      refine TF_gy rfl rfl rfl rfl (Y_move rfl) ?_
      refine TF_gy rfl rfl rfl rfl (Y_nil_check rfl) ?_
      refine TF_gy rfl rfl rfl rfl (Y_field_addr rfl) ?_
      refine TF_gy rfl rfl rfl rfl (Y_load rfl rfl) ?_
      refine TF_gy rfl rfl rfl rfl (Y_move rfl) ?_
      refine TF_gy rfl rfl rfl rfl (Y_index_n (R := fileR) (xs := VF s) rfl rfl rfl (vw_get he)) ?_
      refine TF_gy rfl rfl rfl rfl (Y_field_addr2 rfl) ?_
      refine TF_gy rfl rfl rfl rfl (Y_load_n (R := fileR) (c := c) (xs := VF s) (q := 2) rfl sln (vw_get he) rfl) ?_
      refine TF_gy rfl rfl rfl rfl (Y_sub rfl rfl (by show _ ≤ ((viewF e).bytes.size : Int) - e.synced ∧ ((viewF e).bytes.size : Int) - e.synced ≤ _; omega)) ?_
      refine TF_gy rfl rfl rfl rfl (Y_gt rfl rfl) ?_
      refine TF_name 58 (v' := .bool true) rfl (congrArg Value.bool (decide_eq_true (by show ((viewF e).bytes.size : Int) - e.synced < t.2; omega))) ?_
      refine TF_y rfl rfl (Y_pick_f rfl rfl) ?_
      refine TF_nil ?_
      refine T_cond_true rfl ?_
      refine T_region ?_
      refine TL_y rfl rfl (Y_assign rfl) ?_
      refine TL_nil ?_
      refine T_ret ?_
      refine thenS_ret ?_
      refine inB_ret ?_
      refine thenS_ret ?_
      refine thenS_ret ?_
      refine inB_ret ?_
      refine thenS_ret ?_
      have hnc := not_crash2 (s := s) ht (by rintro ⟨e2, h1, h2, h3⟩; rw [hf] at h1; cases h1; omega)
      rw [if_neg hnc, if_neg hnc]
      refine RetQ.gives (rk_close (A := some ⟨bf, of, none⟩) (c := c) (ca := ca) b s hok) ?_
      exact RetG_1 (.inl rfl) rfl (ResV.tmp rfl) GivesTo.g (⟨rfl, rfl⟩)
    · have hvs : (viewF e).bytes.size = e.bytes.length := str_size _
      have hoe := hi.ok e (List.mem_of_getElem? he)
      have hte := tot_mem (List.mem_of_getElem? he)
      refine T_addr_n (sln (A := A) (c := c) (R := fileR) (xs := VF s)) (vw_get he) fun bf of eq => ?_
      subst eq
      refine T_region_draw _ [0, 1, 3, 7, 7, 31, 63, 127, 255, 511, 1023, 2047, 2047, 8191, 16383, 32767, 2047, 67583, 198655, 460799, 2047, 2033663, 4130815, 8325119, 16713727, 2047, 33556479, 100665343, 234883071, 2047, 1040189439, 2113931263, 4261414911, 8589871103, 17179869183, 34359738367] [] [(0, true), (1, true), (2, true), (3, true), (4, true), (5, true), (6, true), (7, true), (8, true), (9, true), (10, true), (11, true), (12, true), (13, true), (14, true), (15, true), (16, true), (17, true), (18, true), (19, true), (20, true), (21, true), (22, true), (23, true), (24, true), (25, true), (26, true), (27, true), (28, true), (29, true), (30, true), (31, true), (32, true), (33, true), (34, true), (35, true)] (by kernel_rfl) (by decide +kernel) (Gives.refl _) ?_
      refine TF_y rfl rfl (Y_move rfl) ?_
      refine TF_y rfl rfl (Y_lt rfl rfl) ?_
      refine TF_name 25 (v' := .bool false) rfl (congrArg Value.bool (decide_eq_false (by omega))) ?_
      refine TF_y rfl rfl (Y_move rfl) ?_
      refine TF_gy rfl rfl rfl rfl (Y_move rfl) ?_
      refine TF_gy rfl rfl rfl rfl (Y_move rfl) ?_
      refine TF_gy rfl rfl rfl rfl (Y_index_n (R := tornR) (xs := keep) rfl rfl rfl ht) ?_
      refine TF_gy rfl rfl rfl rfl (Y_field_addr2 rfl) ?_
      refine TF_gy rfl rfl rfl rfl (Y_load_n (R := tornR) (c := c0) (xs := keep) (q := 1) rfl hkk ht rfl) ?_
      refine TF_gy rfl rfl rfl rfl (Y_lt rfl rfl) ?_
      refine TF_name 32 (v' := .bool false) rfl (congrArg Value.bool (decide_eq_false (by omega))) ?_
      refine TF_y rfl rfl (Y_pick_f rfl rfl) ?_
      refine TF_y rfl rfl (Y_move rfl) ?_
      refine TF_gy rfl rfl rfl rfl (Y_move rfl) ?_
      refine TF_gy rfl rfl rfl rfl (Y_move rfl) ?_
      refine TF_gy rfl rfl rfl rfl (Y_index_n (R := tornR) (xs := keep) rfl rfl rfl ht) ?_
      refine TF_gy rfl rfl rfl rfl (Y_field_addr2 rfl) ?_
      refine TF_gy rfl rfl rfl rfl (Y_load_n (R := tornR) (c := c0) (xs := keep) (q := 1) rfl hkk ht rfl) ?_
      refine TF_gy rfl rfl rfl rfl (Y_move rfl) ?_
      refine TF_gy rfl rfl rfl rfl (Y_nil_check rfl) ?_
      refine TF_gy rfl rfl rfl rfl (Y_field_addr rfl) ?_
      refine TF_gy rfl rfl rfl rfl (Y_load rfl rfl) ?_
      refine TF_gy rfl rfl rfl rfl (Y_move rfl) ?_
      refine TF_gy rfl rfl rfl rfl (Y_index_n (R := fileR) (xs := VF s) rfl rfl rfl (vw_get he)) ?_
      refine TF_gy rfl rfl rfl rfl (Y_field_addr2 rfl) ?_
      refine TF_gy rfl rfl rfl rfl (Y_load_n (R := fileR) (c := c) (xs := VF s) (q := 1) rfl sln (vw_get he) rfl) ?_
      refine TF_gy rfl rfl rfl rfl (Y_len_str rfl) ?_
      refine TF_gy rfl rfl rfl rfl (Y_move rfl) ?_
      refine TF_gy rfl rfl rfl rfl (Y_nil_check rfl) ?_
      refine TF_gy rfl rfl rfl rfl (Y_field_addr rfl) ?_
      refine TF_gy rfl rfl rfl rfl (Y_load rfl rfl) ?_
      refine TF_gy rfl rfl rfl rfl (Y_move rfl) ?_
      refine TF_gy rfl rfl rfl rfl (Y_index_n (R := fileR) (xs := VF s) rfl rfl rfl (vw_get he)) ?_
      refine TF_gy rfl rfl rfl rfl (Y_field_addr2 rfl) ?_
      refine TF_gy rfl rfl rfl rfl (Y_load_n (R := fileR) (c := c) (xs := VF s) (q := 2) rfl sln (vw_get he) rfl) ?_
      refine TF_gy rfl rfl rfl rfl (Y_sub rfl rfl (by show _ ≤ ((viewF e).bytes.size : Int) - e.synced ∧ ((viewF e).bytes.size : Int) - e.synced ≤ _; omega)) ?_
      refine TF_gy rfl rfl rfl rfl (Y_gt rfl rfl) ?_
      refine TF_name 58 (v' := .bool false) rfl (congrArg Value.bool (decide_eq_false (by show ¬ ((viewF e).bytes.size : Int) - e.synced < t.2; omega))) ?_
      refine TF_y rfl rfl (Y_pick_f rfl rfl) ?_
      refine TF_nil ?_
      refine T_cond_false rfl ?_
      refine T_skip ?_
      refine thenS_normal ?_
      refine T_region ?_
      refine TL_y rfl rfl (Y_assign rfl) ?_
      refine TL_nil ?_
      refine T_block ?_
      refine T_loopK (σ := Nat) [0, 1, 5] (fun n => n ≤ i ∧ ∀ p ∈ (keep.take i).take n, p.1 ≠ t.1) (fun n kv => (7, .int .i64 (n : Int)) :: kv) (fun n => rkC b s.size (some ⟨bf, of, none⟩) (VF s).length c (decide (s.calls ≠ -1)) ca :: osl fileR 40 (some ⟨bf, of, none⟩) c (VF s) :: L) (fun n => i - n) (0) rfl (⟨Nat.zero_le _, by simp⟩) (GivesTo.g) (sub_cons rfl (sub_cons rfl (sub_cons rfl (sub_cons rfl (sub_nil))))) ?_
      intro n hn
      refine T_seq ?_
      refine T_region ?_
      refine TL_y rfl rfl (Y_move rfl) ?_
      refine TL_y rfl rfl (Y_move rfl) ?_
      refine TL_y rfl rfl (Y_lt rfl rfl) ?_
      refine TL_nil ?_
      refine T_if rfl (fun h62 => ?_) (fun h62 => ?_)
      · refine T_skip ?_
        refine thenS_normal ?_
        refine T_seq ?_
        refine T_block ?_
        obtain ⟨p, hp⟩ : ∃ p, keep[n]? = some p := ⟨_, List.getElem?_eq_getElem (by omega)⟩
        have hpi : (keep.take i)[n]? = some p := (by rw [List.getElem?_take_of_lt (by omega)]; exact hp)
        refine T_region_draw _ [0, 0, 3, 7, 15, 0, 0, 96, 224, 480, 1023] [] [(0, true), (1, true), (2, true), (3, true), (4, true), (5, true), (6, true), (7, true), (8, true), (9, true), (10, true)] (by kernel_rfl) (by decide +kernel) (Gives.refl _) ?_
        refine TF_y rfl rfl (Y_move rfl) ?_
        refine TF_y rfl rfl (Y_move rfl) ?_
        refine TF_y rfl rfl (Y_index_n (R := tornR) (xs := keep) rfl rfl rfl hp) ?_
        refine TF_y rfl rfl (Y_field_addr2 rfl) ?_
        refine TF_y rfl rfl (Y_load_n (R := tornR) (c := c0) (xs := keep) (q := 0) rfl hkk hp rfl) ?_
        refine TF_y rfl rfl (Y_move rfl) ?_
        refine TF_y rfl rfl (Y_move rfl) ?_
        refine TF_y rfl rfl (Y_index_n (R := tornR) (xs := keep) rfl rfl rfl ht) ?_
        refine TF_y rfl rfl (Y_field_addr2 rfl) ?_
        refine TF_y rfl rfl (Y_load_n (R := tornR) (c := c0) (xs := keep) (q := 0) rfl hkk ht rfl) ?_
        refine TF_y rfl rfl (Y_str_eq rfl rfl) ?_
        refine TF_nil ?_
        refine T_if rfl (fun h75 => ?_) (fun h75 => ?_)
        · refine T_region ?_
          refine TL_y rfl rfl (Y_assign rfl) ?_
          refine TL_nil ?_
          refine T_ret ?_
          refine inB_ret ?_
          refine thenS_ret ?_
          refine thenS_ret ?_
          refine inB_ret ?_
          refine inB_ret ?_
          refine thenS_ret ?_
          refine thenS_ret ?_
          refine inB_ret ?_
          refine thenS_ret ?_
          have hnc := not_crash1 (s := s) ht (by rw [← h75]; exact getM_some_of (List.mem_of_getElem? hpi))
          rw [if_neg hnc, if_neg hnc]
          refine RetQ.gives (rk_close (A := some ⟨bf, of, none⟩) (c := c) (ca := ca) b s hok) ?_
          exact RetG_1 (.inl rfl) rfl (ResV.tmp rfl) GivesTo.g (⟨rfl, rfl⟩)
        · refine T_skip ?_
          refine inB_normal ?_
          refine thenS_normal ?_
          refine T_region_last ?_
          refine TL_y rfl rfl (Y_move rfl) ?_
          refine TL_y rfl rfl (Y_add rfl rfl (by omega)) ?_
          refine TL_name 64 (v' := .int .i64 ((n + 1 : Nat) : Int)) rfl (rfl) ?_
          refine TL_y rfl rfl (Y_assign rfl) ?_
          refine TL_nil ?_
          refine thenS_normal ?_
          exact ⟨n + 1, ⟨by omega, by rw [takeAt hpi]; intro q hq; rcases List.mem_append.1 hq with h | h; exact hn.2 q h; (rw [List.mem_singleton.1 h]; exact h75)⟩, by omega, holds_to (sub_cons rfl (sub_cons rfl (sub_cons rfl (sub_cons rfl (sub_nil))))) GivesTo.g⟩
      · refine T_exit ?_
        refine thenS_exit ?_
        refine thenS_exit ?_
        refine inB_hit ?_
        refine inB_normal ?_
        refine thenS_normal ?_
        have hnone : getM (keep.take i) t.1 = none := getM_none.2 (by have := hn.2; rwa [List.take_of_length_le (by rw [List.length_take]; omega)] at this)
        refine T_region_last ?_
        refine TL_y rfl rfl (Y_move rfl) ?_
        refine TL_y rfl rfl (Y_add rfl rfl (by omega)) ?_
        refine TL_name 16 (v' := .int .i64 ((i + 1 : Nat) : Int)) rfl (rfl) ?_
        refine TL_y rfl rfl (Y_assign rfl) ?_
        refine TL_nil ?_
        refine thenS_normal ?_
        exact ⟨i + 1, ⟨by omega, by rw [htk]; exact crash_snoc hco hnone ⟨e, hf, hb.1, hb.2⟩⟩, by omega, holds_to (sub_cons rfl (sub_cons rfl (sub_cons rfl (sub_nil)))) GivesTo.g⟩
  · refine T_exit ?_
    refine thenS_exit ?_
    refine thenS_exit ?_
    refine inB_hit ?_
    refine thenS_normal ?_
    refine T_seq ?_
    have hck : crashOk s keep := (by have := hco; rwa [List.take_of_length_le (by omega)] at this)
    have hcki := hi.crash hck
    refine T_region ?_
    refine TL_y rfl rfl (Y_assign rfl) ?_
    refine TL_nil ?_
    refine T_block ?_
    refine T_loopK (σ := Nat) [0, 1] (fun i => i ≤ s.l.length) (fun i kv => (8, .int .i64 (i : Int)) :: kv) (fun i => rkC b s.size A ((mixL keep s.l i).map viewF).length c (decide (s.calls ≠ -1)) ca :: osl fileR 40 A c ((mixL keep s.l i).map viewF) :: L) (fun i => s.l.length - i) (0) rfl (Nat.zero_le _) ((by rw [mixL_zero]; exact Gives.refl _)) (sub_cons rfl (sub_cons rfl (sub_cons rfl (sub_nil)))) ?_
    intro i hi2
    refine T_seq ?_
    have hml : ((mixL keep s.l i).map viewF).length = s.l.length := (by rw [List.length_map, mixL_len])
    refine T_region ?_
    refine TL_y rfl rfl (Y_move rfl) ?_
    refine TL_y rfl rfl (Y_move rfl) ?_
    refine TL_y rfl rfl (Y_nil_check rfl) ?_
    refine TL_y rfl rfl (Y_field_addr rfl) ?_
    refine TL_y rfl rfl (Y_load rfl rfl) ?_
    refine TL_y rfl rfl (Y_len rfl) ?_
    refine TL_y rfl rfl (Y_lt rfl rfl) ?_
    refine TL_nil ?_
    refine T_if rfl (fun h82 => ?_) (fun h82 => ?_)
    · refine T_skip ?_
      refine thenS_normal ?_
      refine T_seq ?_
      refine T_block ?_
      obtain ⟨e, he⟩ : ∃ e, s.l[i]? = some e := ⟨_, List.getElem?_eq_getElem (by omega)⟩
      have hem := List.mem_of_getElem? he
      have hoe := hi.ok e hem
      have hte := tot_mem hem
      have hma : ((mixL keep s.l i).map viewF)[i]? = some (viewF e) := (by rw [List.getElem?_map, mixL_at he]; rfl)
      have hvs : (viewF e).bytes.size = e.bytes.length := str_size _
      refine T_region ?_
      refine TL_y rfl rfl (Y_move rfl) ?_
      refine TL_y rfl rfl (Y_nil_check rfl) ?_
      refine TL_y rfl rfl (Y_field_addr rfl) ?_
      refine TL_y rfl rfl (Y_load rfl rfl) ?_
      refine TL_y rfl rfl (Y_move rfl) ?_
      refine TL_index_n rfl rfl rfl (rfl) ((sln (A := A) (c := c) (R := fileR) (xs := (mixL keep s.l i).map viewF))) (hma) ?_
      intro bn90 on90 hA90 hk90
      have hu90 := hma
      refine TL_y rfl rfl (Y_field_addr2 rfl) ?_
      refine TL_y rfl rfl (Y_load_n rfl hk90 hu90 rfl) ?_
      refine TL_y rfl rfl (Y_assign rfl) ?_
      refine TL_nil ?_
      refine T_seq ?_
      refine T_region ?_
      refine TL_y rfl rfl (Y_assign rfl) ?_
      refine TL_nil ?_
      refine T_block ?_
      refine T_loopK (σ := Nat) [0, 1, 8] (fun k => k ≤ keep.length) (fun k kv => (10, .int .i64 (k : Int)) :: (9, .int .i64 (e.synced + kpt (keep.take k) e.name)) :: kv) (fun k => rkC b s.size A ((mixL keep s.l i).map viewF).length c (decide (s.calls ≠ -1)) ca :: osl fileR 40 A c ((mixL keep s.l i).map viewF) :: L) (fun k => keep.length - k) (0) rfl (Nat.zero_le _) (GivesTo.g) (sub_cons rfl (sub_cons ((by show some (Value.int IntKind.i64 e.synced) = some (.int .i64 (e.synced + 0)); rw [Int.add_zero])) (sub_cons rfl (sub_cons rfl (sub_cons rfl (sub_nil)))))) ?_
      intro k hk3
      refine T_seq ?_
      refine T_region ?_
      refine TL_y rfl rfl (Y_move rfl) ?_
      refine TL_y rfl rfl (Y_move rfl) ?_
      refine TL_y rfl rfl (Y_len rfl) ?_
      refine TL_y rfl rfl (Y_lt rfl rfl) ?_
      refine TL_nil ?_
      refine T_if rfl (fun h96 => ?_) (fun h96 => ?_)
      · refine T_skip ?_
        refine thenS_normal ?_
        refine T_seq ?_
        refine T_block ?_
        obtain ⟨p, hp⟩ : ∃ p, keep[k]? = some p := ⟨_, List.getElem?_eq_getElem (by omega)⟩
        have hkk : SlN (rkC b s.size A ((mixL keep s.l i).map viewF).length c (decide (s.calls ≠ -1)) ca :: osl fileR 40 A c ((mixL keep s.l i).map viewF) :: L) tornR A0 c0 keep := hk.tail.tail
        refine T_addr_n hkk hp fun bq oq eq => ?_
        subst eq
        refine T_addr_n (sln (A := A) (c := c) (R := fileR) (xs := (mixL keep s.l i).map viewF)) hma fun bf of eq => ?_
        subst eq
        have hks := kpt_step hck.1 hp e.name
        have hkb := kpt_take_ok hi hck hem k
        have hkb1 := kpt_take_ok hi hck hem (k + 1)
        refine T_region_draw _ [0, 0, 3, 7, 15, 0, 32, 96, 224, 0, 992, 2016, 4064, 8191] [] [(0, true), (1, true), (2, true), (3, true), (4, true), (5, true), (6, true), (7, true), (8, true), (9, true), (10, true), (11, true), (12, true), (13, true)] (by kernel_rfl) (by decide +kernel) (Gives.refl _) ?_
        refine TF_y rfl rfl (Y_move rfl) ?_
        refine TF_y rfl rfl (Y_move rfl) ?_
        refine TF_y rfl rfl (Y_index_n (R := tornR) (xs := keep) rfl rfl rfl hp) ?_
        refine TF_y rfl rfl (Y_field_addr2 rfl) ?_
        refine TF_y rfl rfl (Y_load_n (R := tornR) (c := c0) (xs := keep) (q := 0) rfl hkk hp rfl) ?_
        refine TF_y rfl rfl (Y_move rfl) ?_
        refine TF_y rfl rfl (Y_nil_check rfl) ?_
        refine TF_y rfl rfl (Y_field_addr rfl) ?_
        refine TF_y rfl rfl (Y_load rfl rfl) ?_
        refine TF_y rfl rfl (Y_move rfl) ?_
        refine TF_y rfl rfl (Y_index_n (R := fileR) (xs := (mixL keep s.l i).map viewF) rfl rfl rfl hma) ?_
        refine TF_y rfl rfl (Y_field_addr2 rfl) ?_
        refine TF_y rfl rfl (Y_load_n (R := fileR) (c := c) (xs := (mixL keep s.l i).map viewF) (q := 0) rfl sln hma rfl) ?_
        refine TF_y rfl rfl (Y_str_eq rfl rfl) ?_
        refine TF_nil ?_
        refine T_if rfl (fun h112 => ?_) (fun h112 => ?_)
        · have hks2 := hks.2 (show p.1 = e.name from h112)
          have hks1 := hks.1
          rw [if_pos (show p.1 = e.name from h112)] at hks1
          refine T_region_last ?_
          refine TL_y rfl rfl (Y_move rfl) ?_
          refine TL_y rfl rfl (Y_move rfl) ?_
          refine TL_y rfl rfl (Y_move rfl) ?_
          refine TL_index_n rfl rfl rfl (rfl) (hkk) (hp) ?_
          intro bn116 on116 hA116 hk116
          have hu116 := hp
          refine TL_y rfl rfl (Y_field_addr2 rfl) ?_
          refine TL_y rfl rfl (Y_load_n rfl hk116 hu116 rfl) ?_
          refine TL_y rfl rfl (Y_add rfl rfl (by omega)) ?_
          refine TL_name 119 (v' := .int .i64 (e.synced + kpt (keep.take (k + 1)) e.name)) rfl (by congr 1; omega) ?_
          refine TL_y rfl rfl (Y_assign rfl) ?_
          refine TL_nil ?_
          refine inB_normal ?_
          refine thenS_normal ?_
          refine T_region_last ?_
          refine TL_y rfl rfl (Y_move rfl) ?_
          refine TL_y rfl rfl (Y_add rfl rfl (by omega)) ?_
          refine TL_name 98 (v' := .int .i64 ((k + 1 : Nat) : Int)) rfl (rfl) ?_
          refine TL_y rfl rfl (Y_assign rfl) ?_
          refine TL_nil ?_
          refine thenS_normal ?_
          exact ⟨k + 1, (by omega), by omega, holds_to (sub_cons rfl (sub_cons rfl (sub_cons rfl (sub_cons rfl (sub_cons rfl (sub_nil)))))) GivesTo.g⟩
        · have hks1 := hks.1
          rw [if_neg (show ¬ p.1 = e.name from h112)] at hks1
          refine T_skip ?_
          refine inB_normal ?_
          refine thenS_normal ?_
          refine T_region_last ?_
          refine TL_y rfl rfl (Y_move rfl) ?_
          refine TL_y rfl rfl (Y_add rfl rfl (by omega)) ?_
          refine TL_name 98 (v' := .int .i64 ((k + 1 : Nat) : Int)) rfl (rfl) ?_
          refine TL_y rfl rfl (Y_assign rfl) ?_
          refine TL_nil ?_
          refine thenS_normal ?_
          rw [← hks1]
          exact ⟨k + 1, (by omega), by omega, holds_to (sub_cons rfl (sub_cons rfl (sub_cons rfl (sub_cons rfl (sub_cons rfl (sub_nil)))))) GivesTo.g⟩
      · refine T_exit ?_
        refine thenS_exit ?_
        refine thenS_exit ?_
        refine inB_hit ?_
        refine thenS_normal ?_
        have hkp := kpt_ok hi hck hem
        rw [List.take_of_length_le (show keep.length ≤ k by omega)]
        obtain ⟨m, hm⟩ : ∃ m : Nat, e.synced + kpt keep e.name = (m : Int) := ⟨(e.synced + kpt keep e.name).toNat, by omega⟩
        rw [hm]
        have hcE : cutE keep e = ⟨e.name, e.blk, e.bytes.take m, (m : Int)⟩ := (by unfold cutE; rw [hm]; rfl)
        have hml2 : m ≤ e.bytes.length := (by omega)
        have hsz : (strOfNums (e.bytes.take m)).size ≤ maxEl := (by rw [str_size, List.length_take]; simp only [maxEl]; omega)
        refine T_focus (A := A) (c := c) (R := fileR) hma fun g3 l3 hA3 hl3 => ?_
        subst hA3
        refine T_pull 1 rfl ?_
        refine T_isFile fun hl4 hfo => ?_
        subst hl4
        refine T_region_draw _ [0, 1, 3, 7, 0, 0, 32, 96, 224, 0, 992, 2016, 4064, 0, 16352, 32767, 65535, 131071] [17] [(0, true), (1, true), (2, true), (3, true), (4, true), (5, true), (6, true), (7, true), (8, true), (9, true), (10, true), (11, true), (12, true), (13, true), (14, true), (15, true), (16, true), (17, false)] (by kernel_rfl) (by decide +kernel) (Gives.refl _) ?_
        refine TF_y rfl rfl (Y_move rfl) ?_
        refine TF_y rfl rfl (Y_nil_check rfl) ?_
        refine TF_y rfl rfl (Y_field_addr rfl) ?_
        refine TF_y rfl rfl (Y_load rfl rfl) ?_
        refine TF_y rfl rfl (Y_move rfl) ?_
        refine TF_y rfl rfl (Y_move rfl) ?_
        refine TF_y rfl rfl (Y_nil_check rfl) ?_
        refine TF_y rfl rfl (Y_field_addr rfl) ?_
        refine TF_y rfl rfl (Y_load rfl rfl) ?_
        refine TF_y rfl rfl (Y_move rfl) ?_
        refine TF_y rfl rfl (Y_index_x (R := fileR) (xs := (mixL keep s.l i).map viewF) rfl rfl rfl hma) ?_
        refine TF_y rfl rfl (Y_field_addr2 rfl) ?_
        refine TF_y rfl rfl (Y_load_x rfl rfl) ?_
        refine TF_y rfl rfl (Y_move rfl) ?_
        refine TF_y rfl rfl (Y_cut_str (k1 := .i64) (k2 := .i64) rfl (.inl ⟨rfl, rfl⟩) (.inr ⟨_, rfl, rfl⟩) (by omega)) ?_
        refine TF_name 134 (v' := .string (strOfNums (e.bytes.take m))) rfl (congrArg Value.string (str_cut e.bytes m)) ?_
        refine TF_y rfl rfl (Y_index_x (R := fileR) (xs := (mixL keep s.l i).map viewF) rfl rfl rfl hma) ?_
        refine TF_y rfl rfl (Y_field_addr2 rfl) ?_
        refine TF_anchor rfl ?_
        refine TL_store_x rfl rfl rfl rfl rfl rfl ?_
        refine TF_end_tail rfl ?_
        refine TF_nil ?_
        refine T_region_last ?_
        refine TL_y rfl rfl (Y_move rfl) ?_
        refine TL_y rfl rfl (Y_nil_check rfl) ?_
        refine TL_y rfl rfl (Y_field_addr rfl) ?_
        refine TL_y rfl rfl (Y_load rfl rfl) ?_
        refine TL_y rfl rfl (Y_move rfl) ?_
        refine TL_y rfl rfl (Y_move rfl) ?_
        refine TL_y rfl rfl (Y_index_x (R := fileR) (xs := (mixL keep s.l i).map viewF) rfl rfl rfl hma) ?_
        refine TL_y rfl rfl (Y_field_addr2 rfl) ?_
        refine TL_store_x rfl rfl rfl rfl rfl rfl ?_
        refine TL_nil ?_
        refine inB_normal ?_
        refine thenS_normal ?_
        refine T_unx (R := fileR) g3 (viewF ⟨e.name, e.blk, e.bytes.take m, (m : Int)⟩) (Knows.const (file_rep (f := viewF ⟨e.name, e.blk, e.bytes.take m, (m : Int)⟩) ⟨hfo.1, hsz, show intIn .i64 (m : Int) from i64In_mk (by omega)⟩)) ?_
        rw [show ((mixL keep s.l i).map viewF).set i (viewF ⟨e.name, e.blk, e.bytes.take m, (m : Int)⟩) = (mixL keep s.l (i + 1)).map viewF by rw [← hcE, ← List.map_set, mixL_set he]]
        rw [show ((mixL keep s.l i).map viewF).length = ((mixL keep s.l (i + 1)).map viewF).length by rw [List.length_map, List.length_map, mixL_len, mixL_len]]
        refine T_region_last ?_
        refine TL_y rfl rfl (Y_move rfl) ?_
        refine TL_y rfl rfl (Y_add rfl rfl (by omega)) ?_
        refine TL_name 84 (v' := .int .i64 ((i + 1 : Nat) : Int)) rfl (rfl) ?_
        refine TL_y rfl rfl (Y_assign rfl) ?_
        refine TL_nil ?_
        refine thenS_normal ?_
        exact ⟨i + 1, (by omega), by omega, holds_to (sub_cons rfl (sub_cons rfl (sub_cons rfl (sub_nil)))) GivesTo.g⟩
    · refine T_exit ?_
      refine thenS_exit ?_
      refine thenS_exit ?_
      refine inB_hit ?_
      refine thenS_normal ?_
      rw [mixL_all keep (show s.l.length ≤ i by omega)]
      refine T_region ?_
      refine TL_y rfl rfl (Y_move rfl) ?_
      refine TL_y rfl rfl (Y_nil_check rfl) ?_
      refine TL_y rfl rfl (Y_field_addr rfl) ?_
      refine TL_store rfl rfl rfl rfl rfl rfl ?_
      refine TL_nil ?_
      refine T_region ?_
      refine TL_y rfl rfl (Y_assign rfl) ?_
      refine TL_nil ?_
      refine T_ret ?_
      rw [if_pos hck, if_pos hck, show crashK s keep = ⟨s.size, -1, s.l.map (cutE keep)⟩ from rfl]
      refine RetQ.gives (rk_shut (A := A) (c := c) (ca := ca) b ⟨s.size, -1, s.l.map (cutE keep)⟩ rfl ⟨hcki, hok.2.1, fun h => absurd rfl h⟩) ?_
      exact RetG_1 (.inl rfl) rfl (ResV.tmp rfl) GivesTo.g (⟨rfl, rfl⟩)
end Go.SL
set_option linter.unusedVariables false
set_option linter.unusedSimpArgs false
namespace Go.SL
open Go Go.Proofs
structure FkSt where
  done : List (ByteArray × Nat)
  m : List FileE
theorem diskFork_spec {L : List HP} {b bt : Nat} {s : DkS} : Fn Try.prog 11 #[.pointer (some ⟨b, 0, none⟩)] (dk b bt s :: L) (fun v L' => ∃ b' bt' s', v = .pointer (some ⟨b', 0, none⟩) ∧ L' = dk b' bt' s' :: dk b bt s :: L ∧ s'.size = s.size ∧ s'.calls = s.calls ∧ VF s' = VF s ∧ KI s') := by
  refine Fn_enter Try.func11 rfl rfl rfl rfl ?_
  refine T_region ?_
  refine TL_y rfl rfl (Y_assign rfl) ?_
  refine TL_nil ?_
  refine T_seq ?_
  refine T_region ?_
  refine TL_y rfl rfl (Y_move rfl) ?_
  refine TL_call rfl rfl (diskMade_spec) ?_
  rintro _ _ ⟨rfl, rfl⟩
  refine TL_name 7 (v' := .bool true) rfl (rfl) ?_
  refine TL_y rfl rfl (Y_not_t rfl) ?_
  refine TL_nil ?_
  refine T_cond_false rfl ?_
  refine T_skip ?_
  refine thenS_normal ?_
  refine T_dk fun hi => ?_
  have htot := hi.tot
  have hsz := hi.size
  have hln := hi.len
  refine T_region_draw (cells b [.map (some bt), .int .i64 (leftK s), .int .i64 s.calls] 51 :: []) [0, 0, 2, 6, 14, 0, 32, 96, 224, 511, 1023, 2047] [] [(1, true), (2, true), (3, true), (4, true), (5, true), (6, true), (7, true), (8, true), (0, false), (9, true), (10, false), (11, true)] (by kernel_rfl) (by decide +kernel) GivesTo.g ?_
  refine TF_y rfl rfl (Y_move rfl) ?_
  refine TF_y rfl rfl (Y_nil_check rfl) ?_
  refine TF_y rfl rfl (Y_field_addr rfl) ?_
  refine TF_y rfl rfl (Y_load rfl rfl) ?_
  refine TF_y rfl rfl (Y_move rfl) ?_
  refine TF_y rfl rfl (Y_nil_check rfl) ?_
  refine TF_y rfl rfl (Y_field_addr rfl) ?_
  refine TF_y rfl rfl (Y_load rfl rfl) ?_
  refine TF_anchor rfl ?_
  refine TL_makeMap strK fpR false rfl ?_
  intro bm
  refine TF_end GivesTo.g ?_
  refine TF_y rfl rfl (Y_build rfl rfl) ?_
  refine TF_anchor rfl ?_
  refine TL_box rfl rfl rfl ?_
  intro b19
  refine TF_end GivesTo.g ?_
  refine TF_y rfl rfl (Y_assign rfl) ?_
  refine TF_nil ?_
  refine T_seq ?_
  refine T_region ?_
  refine TL_y rfl rfl (Y_move rfl) ?_
  refine TL_y rfl rfl (Y_nil_check rfl) ?_
  refine TL_y rfl rfl (Y_field_addr rfl) ?_
  refine TL_y rfl rfl (Y_load rfl rfl) ?_
  refine TL_range rfl rfl ?_
  intro it
  refine TL_nil ?_
  refine T_block ?_
  refine T_loopK (σ := FkSt) [3, 24] (fun g => FkI s.l (dnm g.done) g.m) (fun g kv => kv) (fun g => mrange strK fpR false bt it (fmap s.l) g.done :: cells b [.map (some bt), .int .i64 (leftK s), .int .i64 s.calls] 51 :: allH (s.l.map fH) :: cells b19 [.map (some bm), .int .i64 (leftK s), .int .i64 s.calls] 51 :: omap strK fpR false bm (fmap g.m) :: allH (g.m.map fH) :: L) (fun g => (fmap s.l).length - g.done.length) (⟨[], []⟩) rfl (FkI.nil s.l) ((unS_close (L := []) (L' := _)).trans (show Gives _ (mrange strK fpR false bt it (fmap s.l) [] :: cells b [.map (some bt), .int .i64 (leftK s), .int .i64 s.calls] 51 :: allH (s.l.map fH) :: cells b19 [.map (some bm), .int .i64 (leftK s), .int .i64 s.calls] 51 :: omap strK fpR false bm [] :: unS [] :: L) from GivesTo.g)) (sub_cons rfl (sub_cons rfl (sub_nil))) ?_
  rintro ⟨done, m⟩ hI
  dsimp only at hI ⊢
  refine T_region ?_
  refine TL_next rfl rfl (fun hp => ?_) (fun q1 cs1 hq hd1 hlt => ?_)
  · refine TL_y rfl rfl (Y_extract rfl rfl) ?_
    refine TL_name 26 (v' := .bool false) rfl (rfl) ?_
    refine TL_nil ?_
    refine T_seq ?_
    refine T_cond_false rfl ?_
    refine T_exit ?_
    refine thenS_exit ?_
    refine thenS_exit ?_
    refine inB_hit ?_
    refine thenS_normal ?_
    have hall : ∀ e ∈ s.l, e.name ∈ dnm done := fun e he => by have := (hp.map (fun q : ByteArray × Nat => q.1)).mem_iff.2 (List.mem_map.2 ⟨(e.name, e.blk), List.mem_map.2 ⟨e, he, rfl⟩, rfl⟩); exact this
    have hv := hI.view hi.inc hall
    have hki := hI.ki hi hall
    have htv : totF m = totF s.l := (by rw [← totD_view m, hv, totD_view])
    refine T_gives (endr it) ?_
    refine T_region ?_
    refine TL_y rfl rfl (Y_move rfl) ?_
    refine TL_y rfl rfl (Y_assign rfl) ?_
    refine TL_nil ?_
    refine T_ret ?_
    refine RetQ.gives (dk_close2 b19 bm ⟨s.size, s.calls, m⟩ (n := leftK s) (m := fmap m) (by unfold leftK; dsimp only; rw [htv]) rfl hki) ?_
    refine RetQ.gives (dk_close b bt s hi) ?_
    refine RetQ.gives (show Gives _ (dk b19 bm ⟨s.size, s.calls, m⟩ :: dk b bt s :: L) from GivesTo.g) ?_
    exact RetG_1 (.inl rfl) rfl (ResV.tmp rfl) GivesTo.g (⟨b19, bm, ⟨s.size, s.calls, m⟩, rfl, rfl, rfl, rfl, hv, hki⟩)
  · refine TL_y rfl rfl (Y_extract rfl rfl) ?_
    refine TL_name 26 (v' := .bool true) rfl (rfl) ?_
    refine TL_nil ?_
    refine T_seq ?_
    refine T_cond_true rfl ?_
    refine T_skip ?_
    refine thenS_normal ?_
    refine T_block ?_
    refine T_region ?_
    refine TL_entry_v rfl rfl ?_
    intro ok27 _
    refine TL_y rfl rfl (Y_extract rfl rfl) ?_
    refine TL_y rfl rfl (Y_extract rfl rfl) ?_
    refine TL_y rfl rfl (Y_assign rfl) ?_
    refine TL_y rfl rfl (Y_assign rfl) ?_
    refine TL_nil ?_
    obtain ⟨e, he, heq⟩ := List.mem_map.1 hq
    subst heq
    dsimp only at hd1 ok27 ⊢
    have hnd : e.name ∉ dnm done := fun hm => by obtain ⟨q, hq1, hq2⟩ := List.mem_map.1 hm; exact hd1 q hq1 hq2
    have hoe := hi.ok e he
    have hte := tot_mem he
    have hno := hI.none hnd
    refine T_fout hi.inc he fun A7 c7 => ?_
    refine T_region_draw_last (cells b19 [.map (some bm), .int .i64 (leftK s), .int .i64 s.calls] 51 :: cells e.blk [.slice A7 e.bytes.length c7, .int .i64 e.synced] 67 :: []) [0, 1, 3, 7, 0, 0, 32, 96, 224, 480, 0, 1024, 3072, 7168, 16352, 32736, 65535] [16] [(0, true), (1, true), (2, true), (3, true), (4, true), (5, true), (6, true), (7, true), (8, true), (10, true), (11, true), (12, true), (13, true), (9, false), (14, true), (15, false), (16, false)] (by kernel_rfl) (by decide +kernel) GivesTo.g ?_
    refine TF_y rfl rfl (Y_move rfl) ?_
    refine TF_y rfl rfl (Y_nil_check rfl) ?_
    refine TF_y rfl rfl (Y_field_addr rfl) ?_
    refine TF_y rfl rfl (Y_load rfl rfl) ?_
    refine TF_y rfl rfl (Y_move rfl) ?_
    refine TF_y rfl rfl (Y_move rfl) ?_
    refine TF_y rfl rfl (Y_nil_check rfl) ?_
    refine TF_y rfl rfl (Y_field_addr rfl) ?_
    refine TF_y rfl rfl (Y_load rfl rfl) ?_
    refine TF_y rfl rfl (Y_move rfl) ?_
    refine TF_y rfl rfl (Y_nil_check rfl) ?_
    refine TF_y rfl rfl (Y_field_addr rfl) ?_
    refine TF_y rfl rfl (Y_load rfl rfl) ?_
    refine TF_anchor rfl ?_
    refine TL_call rfl rfl (cloneB_spec (sln (A := A7) (c := c7) (R := intR .u8) (xs := e.bytes)) (by omega)) ?_
    rintro _ _ ⟨A39, c39, rfl, rfl⟩
    refine TF_end GivesTo.g ?_
    refine TF_y rfl rfl (Y_build rfl rfl) ?_
    refine TF_anchor rfl ?_
    refine TL_box rfl rfl rfl ?_
    intro b45
    refine TF_end GivesTo.g ?_
    refine TF_anchor rfl ?_
    refine TL_update (R := fpR) (k := e.name) (u := b45) (cs := [.pointer (some ⟨b45, 0, none⟩)]) (fmap (putF m ⟨e.name, b45, e.bytes, e.synced⟩)) rfl rfl rfl ok27 (Knows.const (ptr_rep b45)) (put_fmap m ⟨e.name, b45, e.bytes, e.synced⟩) ?_
    rw [show m.map fH = (delF m e.name).map fH by rw [delF_none hno]]
    refine TL_gives (f_back (A := A7) (c := c7) hi.inc he) ?_
    refine TL_gives (f_in (A := A39) (c := c39) (l := m) ⟨e.name, b45, e.bytes, e.synced⟩) ?_
    refine TF_end_tail rfl ?_
    refine TF_nil ?_
    refine inB_normal ?_
    refine thenS_normal ?_
    exact ⟨⟨done ++ [(e.name, e.blk)], putF m ⟨e.name, b45, e.bytes, e.synced⟩⟩, (by rw [show dnm (done ++ [(e.name, e.blk)]) = dnm done ++ [e.name] by simp [dnm]]; exact hI.put hi.inc he b45), by simp only [List.length_append, List.length_cons, List.length_nil]; omega, holds_to (sub_cons rfl (sub_cons rfl (sub_nil))) GivesTo.g⟩
theorem looks_spec {L : List HP} {b bt bx : Nat} {s : DkS} : Fn Try.prog 14 #[.pointer (some ⟨b, 0, none⟩), .pointer (some ⟨bx, 0, none⟩)] (dk b bt s :: rk bx s :: L) (fun v L' => v = .bool true ∧ L' = dk b bt s :: rk bx s :: L) := by
  refine Fn_enter Try.func14 rfl rfl rfl rfl ?_
  refine T_region ?_
  refine TL_y rfl rfl (Y_assign rfl) ?_
  refine TL_nil ?_
  refine T_region ?_
  refine TL_y rfl rfl (Y_move rfl) ?_
  refine TL_call rfl rfl (diskFiles_spec) ?_
  rintro _ _ ⟨A8, c8, rfl, rfl⟩
  refine TL_freeze_osl ?_
  refine TL_y rfl rfl (Y_assign rfl) ?_
  refine TL_nil ?_
  refine T_seq ?_
  refine T_pullk bx ?_
  refine T_rk fun A c ca hok => ?_
  have hi := hok.1
  have htt := hi.tot
  have hss := hi.size
  have htv : totD (VF s) = totF s.l := totD_view s.l
  have hvl1 : (List.map viewF s.l).length = s.l.length := List.length_map _
  have hvl2 : (VF s).length = s.l.length := List.length_map _
  have hln := hi.len
  refine T_region ?_
  refine TL_y rfl rfl (Y_move rfl) ?_
  refine TL_y rfl rfl (Y_len rfl) ?_
  refine TL_y rfl rfl (Y_move rfl) ?_
  refine TL_y rfl rfl (Y_nil_check rfl) ?_
  refine TL_y rfl rfl (Y_field_addr rfl) ?_
  refine TL_y rfl rfl (Y_load rfl rfl) ?_
  refine TL_y rfl rfl (Y_len rfl) ?_
  refine TL_y rfl rfl (Y_ne rfl rfl) ?_
  refine TL_name 16 (v' := .bool false) rfl (congrArg Value.bool (by simp)) ?_
  refine TL_y rfl rfl (Y_move rfl) ?_
  refine TL_grun rfl rfl ?_
  refine TL_y rfl rfl (Y_move rfl) ?_
  refine TL_grun rfl rfl ?_
  refine TL_gives (show Gives _ (dk b bt s :: rkC bx s.size A (VF s).length c (decide (s.calls ≠ -1)) ca :: osl fileR 40 A c (VF s) :: sl fileR A8 c8 (VF s) :: L) from GivesTo.g) ?_
  refine TL_call rfl rfl (diskLeft_spec) ?_
  rintro _ _ ⟨rfl, rfl⟩
  refine TL_grun rfl rfl ?_
  refine TL_y rfl rfl (Y_move rfl) ?_
  refine TL_grun rfl rfl ?_
  refine TL_gives (show Gives _ (rkC bx s.size A (VF s).length c (decide (s.calls ≠ -1)) ca :: osl fileR 40 A c (VF s) :: dk b bt s :: sl fileR A8 c8 (VF s) :: L) from GivesTo.g) ?_
  refine TL_call rfl rfl (rkLeft_spec hss (by omega)) ?_
  rintro _ _ ⟨rfl, rfl⟩
  refine TL_grun rfl rfl ?_
  refine TL_y rfl rfl (Y_ne rfl rfl) ?_
  refine TL_name 22 (v' := .bool false) rfl (congrArg Value.bool (decide_eq_false (by unfold leftK; rw [htv]; simp))) ?_
  refine TL_y rfl rfl (Y_pick_f rfl rfl) ?_
  refine TL_y rfl rfl (Y_move rfl) ?_
  refine TL_grun rfl rfl ?_
  refine TL_y rfl rfl (Y_move rfl) ?_
  refine TL_grun rfl rfl ?_
  refine TL_gives (show Gives _ (dk b bt s :: rkC bx s.size A (VF s).length c (decide (s.calls ≠ -1)) ca :: osl fileR 40 A c (VF s) :: sl fileR A8 c8 (VF s) :: L) from GivesTo.g) ?_
  refine TL_call rfl rfl (diskOff_spec) ?_
  rintro _ _ ⟨rfl, rfl⟩
  refine TL_grun rfl rfl ?_
  refine TL_y rfl rfl (Y_move rfl) ?_
  refine TL_grun rfl rfl ?_
  refine TL_gives (rk_close (A := A) (c := c) (ca := ca) bx s hok) ?_
  refine TL_call rfl rfl (rkOff_spec) ?_
  rintro _ _ ⟨rfl, rfl⟩
  refine TL_grun rfl rfl ?_
  refine TL_y rfl rfl (Y_unequal rfl rfl (EqIs.bool)) ?_
  refine TL_name 29 (v' := .bool false) rfl (congrArg Value.bool (by simp)) ?_
  refine TL_y rfl rfl (Y_pick_f rfl rfl) ?_
  refine TL_nil ?_
  refine T_cond_false rfl ?_
  refine T_skip ?_
  refine thenS_normal ?_
  refine T_seq ?_
  refine T_pullk bx ?_
  refine T_rk fun A2 c2 ca2 hok2 => ?_
  refine T_region ?_
  refine TL_y rfl rfl (Y_assign rfl) ?_
  refine TL_nil ?_
  refine T_block ?_
  refine T_loopK (σ := Nat) [1, 5] (fun i => i ≤ (VF s).length) (fun i kv => (6, .int .i64 (i : Int)) :: kv) (fun i => rkC bx s.size A2 (VF s).length c2 (decide (s.calls ≠ -1)) ca2 :: osl fileR 40 A2 c2 (VF s) :: sl fileR A8 c8 (VF s) :: dk b bt s :: L) (fun i => (VF s).length - i) (0) rfl (Nat.zero_le _) (GivesTo.g) (sub_cons rfl (sub_cons rfl (sub_cons rfl (sub_nil)))) ?_
  intro i hil
  refine T_seq ?_
  refine T_region ?_
  refine TL_y rfl rfl (Y_move rfl) ?_
  refine TL_y rfl rfl (Y_move rfl) ?_
  refine TL_y rfl rfl (Y_len rfl) ?_
  refine TL_y rfl rfl (Y_lt rfl rfl) ?_
  refine TL_nil ?_
  refine T_if rfl (fun h34 => ?_) (fun h34 => ?_)
  · refine T_skip ?_
    refine thenS_normal ?_
    refine T_seq ?_
    refine T_block ?_
    obtain ⟨f, hf⟩ : ∃ f, (VF s)[i]? = some f := ⟨_, List.getElem?_eq_getElem (by omega)⟩
    refine T_addr_n (sln (A := A8) (c := c8) (R := fileR) (xs := VF s)) hf fun b1 o1 eq1 => ?_
    subst eq1
    refine T_addr_n (sln (A := A2) (c := c2) (R := fileR) (xs := VF s)) hf fun b2 o2 eq2 => ?_
    subst eq2
    refine T_region_draw _ [0, 0, 3, 7, 0, 16, 48, 112, 0, 496, 1008, 2047] [] [(0, true), (1, true), (2, true), (3, true), (4, true), (5, true), (6, true), (7, true), (8, true), (9, true), (10, true), (11, true)] (by kernel_rfl) (by decide +kernel) (Gives.refl _) ?_
    refine TF_y rfl rfl (Y_move rfl) ?_
    refine TF_y rfl rfl (Y_move rfl) ?_
    refine TF_y rfl rfl (Y_index_n (R := fileR) (xs := VF s) rfl rfl rfl hf) ?_
    refine TF_y rfl rfl (Y_load_naf (R := fileR) (c := c8) (xs := VF s) (q := 0) (vs := fileC f) rfl sln hf rfl) ?_
    refine TF_y rfl rfl (Y_move rfl) ?_
    refine TF_y rfl rfl (Y_nil_check rfl) ?_
    refine TF_y rfl rfl (Y_field_addr rfl) ?_
    refine TF_y rfl rfl (Y_load rfl rfl) ?_
    refine TF_y rfl rfl (Y_move rfl) ?_
    refine TF_y rfl rfl (Y_index_n (R := fileR) (xs := VF s) rfl rfl rfl hf) ?_
    refine TF_y rfl rfl (Y_load_naf (R := fileR) (c := c2) (xs := VF s) (q := 0) (vs := fileC f) rfl sln hf rfl) ?_
    refine TF_y rfl rfl (Y_ne_file (a := f) (b := f) rfl rfl) ?_
    refine TF_name 48 (v' := .bool false) rfl (congrArg Value.bool (decide_eq_false (fun h => h rfl))) ?_
    refine TF_nil ?_
    refine T_cond_false rfl ?_
    refine T_skip ?_
    refine inB_normal ?_
    refine thenS_normal ?_
    refine T_region_last ?_
    refine TL_y rfl rfl (Y_move rfl) ?_
    refine TL_y rfl rfl (Y_add rfl rfl (by omega)) ?_
    refine TL_name 36 (v' := .int .i64 ((i + 1 : Nat) : Int)) rfl (rfl) ?_
    refine TL_y rfl rfl (Y_assign rfl) ?_
    refine TL_nil ?_
    refine thenS_normal ?_
    exact ⟨i + 1, (by omega), by omega, holds_to (sub_cons rfl (sub_cons rfl (sub_cons rfl (sub_nil)))) GivesTo.g⟩
  · refine T_exit ?_
    refine thenS_exit ?_
    refine thenS_exit ?_
    refine inB_hit ?_
    refine thenS_normal ?_
    refine T_region ?_
    refine TL_y rfl rfl (Y_assign rfl) ?_
    refine TL_nil ?_
    refine T_ret ?_
    refine RetQ.gives (rk_close (A := A2) (c := c2) (ca := ca2) bx s hok2) ?_
    refine RetQ.gives (show Gives _ (dk b bt s :: rk bx s :: L) from GivesTo.g) ?_
    exact RetG_1 (.inl rfl) rfl (ResV.tmp rfl) GivesTo.g (⟨rfl, rfl⟩)
end Go.SL
set_option linter.unusedVariables false
set_option linter.unusedSimpArgs false
namespace Go.SL
open Go Go.Proofs
structure OwSt where
  i : Nat
  ys : List Int
section
variable {r : Option Nat} {n : Nat} {P : Program} {Q : Exit → St → Prop} {D : List Deferred} {E : Env} {L : List HP}
theorem T_isInt {c : Code} {k : IntKind} {u : Int} {l : List Value} (h : l = [.int k u] → intIn k u → T r n P c ⟨D, E, L⟩ Q) : T r n P c ⟨D, E, is (intR k) u l :: L⟩ Q :=
  T_fact (Knows.head' (p := is (intR k) u l) (φ := fun _ => l = [.int k u] ∧ intIn k u) fun M k h => h) (fun _ h => h) fun hl => T_gives (Gives.drop _ _) (h hl.1 hl.2)
end
theorem wrap_u8 (x : Int) : intIn .u8 (IntKind.u8.wrap x) := by
  refine u8In_mk ?_
  have : IntKind.u8.wrap x = x % 256 := by
    simp [IntKind.wrap, IntKind.bits, IntKind.signed]
  rw [this]; omega
set_option maxHeartbeats 1000000 in
theorem does15_spec {L : List HP} {b bt bx : Nat} {s t : DkS} (o : OpD) (p : (Option Addr × Nat) × (Option Addr × Nat)) (ho : opOk o) (hb : SlK L (intR .u8) p.1.1 p.1.2 o.bytes) (hub : ∀ x ∈ o.bytes, 0 ≤ x ∧ x ≤ 255) (hkd : o.kind = 1 ∨ o.kind = 2 ∨ o.kind = 3 ∨ o.kind = 4 ∨ o.kind = 5) : Fn Try.prog 7 #[.pointer (some ⟨b, 0, none⟩), .pointer (some ⟨bx, 0, none⟩), .agg (List.toArray (opC o p))] (dk b bt s :: rk bx t :: L) (fun v L' => ∃ (r : Bool) (s' t' : DkS), v = .bool r ∧ L' = dk b bt s' :: rk bx t' :: L ∧ (s = t → r = true ∧ s' = t')) := by
  refine Fn_enter Try.func7 rfl rfl rfl rfl ?_
  refine T_gives (hb.tail.tail).lay ?_
  have hob := ho.bytes
  refine T_region ?_
  refine TL_box rfl rfl rfl ?_
  intro b5
  refine TL_y rfl rfl (Y_assign rfl) ?_
  refine TL_nil ?_
  refine T_seq ?_
  refine T_region ?_
  refine TL_y rfl rfl (Y_field_addr rfl) ?_
  refine TL_y rfl rfl (Y_load rfl rfl) ?_
  refine TL_nil ?_
  refine T_block ?_
  rcases hkd with h | h | h | h | h
  · refine T_region ?_
    refine TL_y rfl rfl (Y_eq rfl rfl) ?_
    refine TL_name 17 (v' := .bool true) rfl (congrArg Value.bool (decide_eq_true h)) ?_
    refine TL_y rfl rfl (Y_assign rfl) ?_
    refine TL_nil ?_
    refine T_cond_true rfl ?_
    refine T_region ?_
    refine TL_build_slice rfl rfl rfl rfl rfl rfl ?_
    intro b18
    refine TL_osl (k := 0) (intR .u8) [] (Knows.const fun M => rfl) rfl (by simp) ?_
    refine TL_name 18 (v' := .slice (some ⟨b18, 0, none⟩) ([] : List Int).length 0) rfl rfl ?_
    refine TL_y rfl rfl (Y_field_addr rfl) ?_
    refine TL_y rfl rfl (Y_load rfl rfl) ?_
    refine TL_append (R := intR .u8) (ys := o.bytes) rfl rfl rfl rfl rfl (slk (A := p.1.1) (c := p.1.2)) (by simp only [List.length_nil]; omega) ?_
    intro A21 c21
    simp only [List.nil_append]
    refine TL_y rfl rfl (Y_assign rfl) ?_
    refine TL_nil ?_
    refine T_region ?_
    refine TL_y rfl rfl (Y_move rfl) ?_
    refine TL_y rfl rfl (Y_field_addr rfl) ?_
    refine TL_y rfl rfl (Y_load rfl rfl) ?_
    refine TL_y rfl rfl (Y_move rfl) ?_
    refine TL_pullk b ?_
    refine TL_call rfl rfl (diskAppend_spec o.name ho.name (sln (A := A21) (c := c21)) hub (by simp only [maxEl]; omega)) ?_
    rintro _ _ ⟨k1, rfl, rfl⟩
    refine TL_y rfl rfl (Y_assign rfl) ?_
    refine TL_nil ?_
    refine T_seq ?_
    refine T_region ?_
    refine TL_y rfl rfl (Y_assign rfl) ?_
    refine TL_nil ?_
    refine T_block ?_
    refine T_loopK (σ := OwSt) [1, 5, 7, 8] (fun g => g.i ≤ o.bytes.length ∧ g.ys.length = o.bytes.length) (fun g kv => (9, .int .i64 (g.i : Int)) :: kv) (fun g => osl (intR .u8) 5 A21 c21 g.ys :: dk b bt (appendK s o.name o.bytes k1).1 :: sl (intR .u8) p.1.1 p.1.2 o.bytes :: cells b5 (opC o p) 31 :: rk bx t :: L) (fun g => o.bytes.length - g.i) (⟨0, o.bytes⟩) rfl (⟨Nat.zero_le _, rfl⟩) (GivesTo.g) (sub_cons rfl (sub_cons rfl (sub_cons rfl (sub_cons rfl (sub_cons rfl (sub_nil)))))) ?_
    rintro ⟨i, ys⟩ ⟨hil, hyl⟩
    dsimp only at hil hyl ⊢
    refine T_seq ?_
    refine T_region ?_
    refine TL_y rfl rfl (Y_move rfl) ?_
    refine TL_y rfl rfl (Y_move rfl) ?_
    refine TL_y rfl rfl (Y_len rfl) ?_
    refine TL_y rfl rfl (Y_lt rfl rfl) ?_
    refine TL_nil ?_
    refine T_if rfl (fun h30 => ?_) (fun h30 => ?_)
    · refine T_skip ?_
      refine thenS_normal ?_
      refine T_seq ?_
      refine T_block ?_
      obtain ⟨u, hu⟩ : ∃ u, ys[i]? = some u := ⟨_, List.getElem?_eq_getElem (by omega)⟩
      refine T_focus (A := A21) (c := c21) (R := intR .u8) hu fun g3 l3 hA3 hl3 => ?_
      subst hA3
      refine T_pull 1 rfl ?_
      refine T_isInt fun hl4 hfo => ?_
      subst hl4
      refine T_region_last ?_
      refine TL_y rfl rfl (Y_move rfl) ?_
      refine TL_y rfl rfl (Y_move rfl) ?_
      refine TL_y rfl rfl (Y_index_x (R := intR .u8) (xs := ys) rfl rfl hyl.symm hu) ?_
      refine TL_y rfl rfl (Y_load_x rfl rfl) ?_
      refine TL_y rfl rfl (Y_add_w rfl rfl) ?_
      refine TL_y rfl rfl (Y_index_x (R := intR .u8) (xs := ys) rfl rfl hyl.symm hu) ?_
      refine TL_store_x rfl rfl rfl rfl rfl rfl ?_
      refine TL_nil ?_
      refine inB_normal ?_
      refine thenS_normal ?_
      refine T_unx (R := intR .u8) g3 (IntKind.u8.wrap (u + 1)) (Knows.const fun _ => ⟨rfl, wrap_u8 _⟩) ?_
      refine T_region_last ?_
      refine TL_y rfl rfl (Y_move rfl) ?_
      refine TL_y rfl rfl (Y_add rfl rfl (by omega)) ?_
      refine TL_name 32 (v' := .int .i64 ((i + 1 : Nat) : Int)) rfl (rfl) ?_
      refine TL_y rfl rfl (Y_assign rfl) ?_
      refine TL_nil ?_
      refine thenS_normal ?_
      exact ⟨⟨i + 1, ys.set i (IntKind.u8.wrap (u + 1))⟩, ⟨by simp only; omega, by simp only; rw [List.length_set]; exact hyl⟩, by simp only; omega, holds_to (sub_cons rfl (sub_cons rfl (sub_cons rfl (sub_cons rfl (sub_cons rfl (sub_nil)))))) GivesTo.g⟩
    · refine T_exit ?_
      refine thenS_exit ?_
      refine thenS_exit ?_
      refine inB_hit ?_
      refine thenS_normal ?_
      refine T_region ?_
      refine TL_y rfl rfl (Y_move rfl) ?_
      refine TL_y rfl rfl (Y_move rfl) ?_
      refine TL_y rfl rfl (Y_field_addr rfl) ?_
      refine TL_y rfl rfl (Y_load rfl rfl) ?_
      refine TL_y rfl rfl (Y_field_addr rfl) ?_
      refine TL_y rfl rfl (Y_load rfl rfl) ?_
      refine TL_pullk bx ?_
      refine TL_call rfl rfl (rkAppend_spec o.name k1 ho.name (sln (A := p.1.1) (c := p.1.2)) hub (by simp only [maxEl]; omega)) ?_
      rintro _ _ ⟨rfl, rfl⟩
      refine TL_y rfl rfl (Y_eq rfl rfl) ?_
      refine TL_y rfl rfl (Y_assign rfl) ?_
      refine TL_nil ?_
      refine T_ret ?_
      refine inB_ret ?_
      refine thenS_ret ?_
      refine RetQ.gives (show Gives _ (dk b bt (appendK s o.name o.bytes k1).1 :: rk bx (appendK t o.name o.bytes k1).1 :: L) from GivesTo.g) ?_
      exact RetG_1 (.inl rfl) rfl (ResV.tmp rfl) GivesTo.g (⟨decide ((appendK s o.name o.bytes k1).2 = (appendK t o.name o.bytes k1).2), (appendK s o.name o.bytes k1).1, (appendK t o.name o.bytes k1).1, rfl, rfl, fun h => by subst h; exact ⟨decide_eq_true rfl, rfl⟩⟩)
  · refine T_region ?_
    refine TL_y rfl rfl (Y_eq rfl rfl) ?_
    refine TL_name 17 (v' := .bool false) rfl (congrArg Value.bool (decide_eq_false (by omega))) ?_
    refine TL_y rfl rfl (Y_assign rfl) ?_
    refine TL_nil ?_
    refine T_cond_false rfl ?_
    refine T_region ?_
    refine TL_y rfl rfl (Y_eq rfl rfl) ?_
    refine TL_name 48 (v' := .bool true) rfl (congrArg Value.bool (decide_eq_true h)) ?_
    refine TL_y rfl rfl (Y_assign rfl) ?_
    refine TL_nil ?_
    refine T_cond_true rfl ?_
    refine T_region_draw (cells b5 (opC o p) 31 :: []) [0, 0, 2, 7, 0, 0, 32, 127, 255, 511] [] [(0, true), (1, true), (2, true), (4, true), (5, true), (6, true), (3, false), (7, false), (8, true), (9, true)] (by kernel_rfl) (by decide +kernel) GivesTo.g ?_
    refine TF_y rfl rfl (Y_move rfl) ?_
    refine TF_y rfl rfl (Y_field_addr rfl) ?_
    refine TF_y rfl rfl (Y_load rfl rfl) ?_
    refine TF_y rfl rfl (Y_move rfl) ?_
    refine TF_y rfl rfl (Y_field_addr rfl) ?_
    refine TF_y rfl rfl (Y_load rfl rfl) ?_
    refine TF_anchor rfl ?_
    refine TL_pullk b ?_
    refine TL_call rfl rfl (diskSync_spec o.name ho.name) ?_
    rintro _ _ ⟨rfl, rfl⟩
    refine TF_end GivesTo.g ?_
    refine TF_anchor rfl ?_
    refine TL_pullk bx ?_
    refine TL_call rfl rfl (rkSync_spec o.name) ?_
    rintro _ _ ⟨rfl, rfl⟩
    refine TF_end GivesTo.g ?_
    refine TF_y rfl rfl (Y_eq rfl rfl) ?_
    refine TF_y rfl rfl (Y_assign rfl) ?_
    refine TF_nil ?_
    refine T_ret ?_
    refine inB_ret ?_
    refine thenS_ret ?_
    refine RetQ.gives (show Gives _ (dk b bt (syncK s o.name).1 :: rk bx (syncK t o.name).1 :: L) from GivesTo.g) ?_
    exact RetG_1 (.inl rfl) rfl (ResV.tmp rfl) GivesTo.g (⟨decide ((syncK s o.name).2 = (syncK t o.name).2), (syncK s o.name).1, (syncK t o.name).1, rfl, rfl, fun h => by subst h; exact ⟨decide_eq_true rfl, rfl⟩⟩)
  · refine T_region ?_
    refine TL_y rfl rfl (Y_eq rfl rfl) ?_
    refine TL_name 17 (v' := .bool false) rfl (congrArg Value.bool (decide_eq_false (by omega))) ?_
    refine TL_y rfl rfl (Y_assign rfl) ?_
    refine TL_nil ?_
    refine T_cond_false rfl ?_
    refine T_region ?_
    refine TL_y rfl rfl (Y_eq rfl rfl) ?_
    refine TL_name 48 (v' := .bool false) rfl (congrArg Value.bool (decide_eq_false (by omega))) ?_
    refine TL_y rfl rfl (Y_assign rfl) ?_
    refine TL_nil ?_
    refine T_cond_false rfl ?_
    refine T_region ?_
    refine TL_y rfl rfl (Y_eq rfl rfl) ?_
    refine TL_name 59 (v' := .bool true) rfl (congrArg Value.bool (decide_eq_true h)) ?_
    refine TL_y rfl rfl (Y_assign rfl) ?_
    refine TL_nil ?_
    refine T_cond_true rfl ?_
    refine T_region_draw (cells b5 (opC o p) 31 :: []) [0, 0, 2, 0, 8, 31, 0, 0, 128, 0, 512, 2047, 4095, 8191] [] [(0, true), (1, true), (2, true), (3, true), (4, true), (6, true), (7, true), (8, true), (9, true), (10, true), (5, false), (11, false), (12, true), (13, true)] (by kernel_rfl) (by decide +kernel) GivesTo.g ?_
    refine TF_y rfl rfl (Y_move rfl) ?_
    refine TF_y rfl rfl (Y_field_addr rfl) ?_
    refine TF_y rfl rfl (Y_load rfl rfl) ?_
    refine TF_y rfl rfl (Y_field_addr rfl) ?_
    refine TF_y rfl rfl (Y_load rfl rfl) ?_
    refine TF_y rfl rfl (Y_move rfl) ?_
    refine TF_y rfl rfl (Y_field_addr rfl) ?_
    refine TF_y rfl rfl (Y_load rfl rfl) ?_
    refine TF_y rfl rfl (Y_field_addr rfl) ?_
    refine TF_y rfl rfl (Y_load rfl rfl) ?_
    refine TF_anchor rfl ?_
    refine TL_pullk b ?_
    refine TL_call rfl rfl (diskCut_spec o.name o.n ho.name) ?_
    rintro _ _ ⟨rfl, rfl⟩
    refine TF_end GivesTo.g ?_
    refine TF_anchor rfl ?_
    refine TL_pullk bx ?_
    refine TL_call rfl rfl (rkCut_spec o.name o.n) ?_
    rintro _ _ ⟨rfl, rfl⟩
    refine TF_end GivesTo.g ?_
    refine TF_y rfl rfl (Y_eq rfl rfl) ?_
    refine TF_y rfl rfl (Y_assign rfl) ?_
    refine TF_nil ?_
    refine T_ret ?_
    refine inB_ret ?_
    refine thenS_ret ?_
    refine RetQ.gives (show Gives _ (dk b bt (cutK s o.name o.n).1 :: rk bx (cutK t o.name o.n).1 :: L) from GivesTo.g) ?_
    exact RetG_1 (.inl rfl) rfl (ResV.tmp rfl) GivesTo.g (⟨decide ((cutK s o.name o.n).2 = (cutK t o.name o.n).2), (cutK s o.name o.n).1, (cutK t o.name o.n).1, rfl, rfl, fun h => by subst h; exact ⟨decide_eq_true rfl, rfl⟩⟩)
  · refine T_region ?_
    refine TL_y rfl rfl (Y_eq rfl rfl) ?_
    refine TL_name 17 (v' := .bool false) rfl (congrArg Value.bool (decide_eq_false (by omega))) ?_
    refine TL_y rfl rfl (Y_assign rfl) ?_
    refine TL_nil ?_
    refine T_cond_false rfl ?_
    refine T_region ?_
    refine TL_y rfl rfl (Y_eq rfl rfl) ?_
    refine TL_name 48 (v' := .bool false) rfl (congrArg Value.bool (decide_eq_false (by omega))) ?_
    refine TL_y rfl rfl (Y_assign rfl) ?_
    refine TL_nil ?_
    refine T_cond_false rfl ?_
    refine T_region ?_
    refine TL_y rfl rfl (Y_eq rfl rfl) ?_
    refine TL_name 59 (v' := .bool false) rfl (congrArg Value.bool (decide_eq_false (by omega))) ?_
    refine TL_y rfl rfl (Y_assign rfl) ?_
    refine TL_nil ?_
    refine T_cond_false rfl ?_
    refine T_region ?_
    refine TL_y rfl rfl (Y_eq rfl rfl) ?_
    refine TL_name 74 (v' := .bool true) rfl (congrArg Value.bool (decide_eq_true h)) ?_
    refine TL_y rfl rfl (Y_assign rfl) ?_
    refine TL_nil ?_
    refine T_cond_true rfl ?_
    refine T_region_draw (cells b5 (opC o p) 31 :: []) [0, 0, 2, 0, 8, 31, 0, 0, 128, 0, 512, 2047, 4095, 8191] [] [(0, true), (1, true), (2, true), (3, true), (4, true), (6, true), (7, true), (8, true), (9, true), (10, true), (5, false), (11, false), (12, true), (13, true)] (by kernel_rfl) (by decide +kernel) GivesTo.g ?_
    refine TF_y rfl rfl (Y_move rfl) ?_
    refine TF_y rfl rfl (Y_field_addr rfl) ?_
    refine TF_y rfl rfl (Y_load rfl rfl) ?_
    refine TF_y rfl rfl (Y_field_addr rfl) ?_
    refine TF_y rfl rfl (Y_load rfl rfl) ?_
    refine TF_y rfl rfl (Y_move rfl) ?_
    refine TF_y rfl rfl (Y_field_addr rfl) ?_
    refine TF_y rfl rfl (Y_load rfl rfl) ?_
    refine TF_y rfl rfl (Y_field_addr rfl) ?_
    refine TF_y rfl rfl (Y_load rfl rfl) ?_
    refine TF_anchor rfl ?_
    refine TL_pullk b ?_
    refine TL_call rfl rfl (diskRename_spec o.name o.to_ ho.name ho.to_) ?_
    rintro _ _ ⟨rfl, rfl⟩
    refine TF_end GivesTo.g ?_
    refine TF_anchor rfl ?_
    refine TL_pullk bx ?_
    refine TL_call rfl rfl (rkRename_spec o.name o.to_ ho.name ho.to_) ?_
    rintro _ _ ⟨rfl, rfl⟩
    refine TF_end GivesTo.g ?_
    refine TF_y rfl rfl (Y_eq rfl rfl) ?_
    refine TF_y rfl rfl (Y_assign rfl) ?_
    refine TF_nil ?_
    refine T_ret ?_
    refine inB_ret ?_
    refine thenS_ret ?_
    refine RetQ.gives (show Gives _ (dk b bt (renameK s o.name o.to_).1 :: rk bx (renameK t o.name o.to_).1 :: L) from GivesTo.g) ?_
    exact RetG_1 (.inl rfl) rfl (ResV.tmp rfl) GivesTo.g (⟨decide ((renameK s o.name o.to_).2 = (renameK t o.name o.to_).2), (renameK s o.name o.to_).1, (renameK t o.name o.to_).1, rfl, rfl, fun h => by subst h; exact ⟨decide_eq_true rfl, rfl⟩⟩)
  · refine T_region ?_
    refine TL_y rfl rfl (Y_eq rfl rfl) ?_
    refine TL_name 17 (v' := .bool false) rfl (congrArg Value.bool (decide_eq_false (by omega))) ?_
    refine TL_y rfl rfl (Y_assign rfl) ?_
    refine TL_nil ?_
    refine T_cond_false rfl ?_
    refine T_region ?_
    refine TL_y rfl rfl (Y_eq rfl rfl) ?_
    refine TL_name 48 (v' := .bool false) rfl (congrArg Value.bool (decide_eq_false (by omega))) ?_
    refine TL_y rfl rfl (Y_assign rfl) ?_
    refine TL_nil ?_
    refine T_cond_false rfl ?_
    refine T_region ?_
    refine TL_y rfl rfl (Y_eq rfl rfl) ?_
    refine TL_name 59 (v' := .bool false) rfl (congrArg Value.bool (decide_eq_false (by omega))) ?_
    refine TL_y rfl rfl (Y_assign rfl) ?_
    refine TL_nil ?_
    refine T_cond_false rfl ?_
    refine T_region ?_
    refine TL_y rfl rfl (Y_eq rfl rfl) ?_
    refine TL_name 74 (v' := .bool false) rfl (congrArg Value.bool (decide_eq_false (by omega))) ?_
    refine TL_y rfl rfl (Y_assign rfl) ?_
    refine TL_nil ?_
    refine T_cond_false rfl ?_
    refine T_region ?_
    refine TL_y rfl rfl (Y_eq rfl rfl) ?_
    refine TL_name 89 (v' := .bool true) rfl (congrArg Value.bool (decide_eq_true h)) ?_
    refine TL_y rfl rfl (Y_assign rfl) ?_
    refine TL_nil ?_
    refine T_cond_true rfl ?_
    refine T_region_draw (cells b5 (opC o p) 31 :: []) [0, 0, 2, 7, 0, 0, 32, 127, 255, 511] [] [(0, true), (1, true), (2, true), (4, true), (5, true), (6, true), (3, false), (7, false), (8, true), (9, true)] (by kernel_rfl) (by decide +kernel) GivesTo.g ?_
    refine TF_y rfl rfl (Y_move rfl) ?_
    refine TF_y rfl rfl (Y_field_addr rfl) ?_
    refine TF_y rfl rfl (Y_load rfl rfl) ?_
    refine TF_y rfl rfl (Y_move rfl) ?_
    refine TF_y rfl rfl (Y_field_addr rfl) ?_
    refine TF_y rfl rfl (Y_load rfl rfl) ?_
    refine TF_anchor rfl ?_
    refine TL_pullk b ?_
    refine TL_call rfl rfl (diskRemove_spec o.name ho.name) ?_
    rintro _ _ ⟨rfl, rfl⟩
    refine TF_end GivesTo.g ?_
    refine TF_anchor rfl ?_
    refine TL_pullk bx ?_
    refine TL_call rfl rfl (rkRemove_spec o.name) ?_
    rintro _ _ ⟨rfl, rfl⟩
    refine TF_end GivesTo.g ?_
    refine TF_y rfl rfl (Y_eq rfl rfl) ?_
    refine TF_y rfl rfl (Y_assign rfl) ?_
    refine TF_nil ?_
    refine T_ret ?_
    refine inB_ret ?_
    refine thenS_ret ?_
    refine RetQ.gives (show Gives _ (dk b bt (removeK s o.name).1 :: rk bx (removeK t o.name).1 :: L) from GivesTo.g) ?_
    exact RetG_1 (.inl rfl) rfl (ResV.tmp rfl) GivesTo.g (⟨decide ((removeK s o.name).2 = (removeK t o.name).2), (removeK s o.name).1, (removeK t o.name).1, rfl, rfl, fun h => by subst h; exact ⟨decide_eq_true rfl, rfl⟩⟩)
end Go.SL
set_option linter.unusedVariables false
set_option linter.unusedSimpArgs false
namespace Go.SL
open Go Go.Proofs
end Go.SL
set_option linter.unusedVariables false
set_option linter.unusedSimpArgs false
namespace Go.SL
open Go Go.Proofs
set_option maxHeartbeats 1000000 in
theorem does6_spec {L : List HP} {b bt bx : Nat} {s : DkS} (o : OpD) (p : (Option Addr × Nat) × (Option Addr × Nat)) (ho : opOk o) (hkp : SlK L tornR p.2.1 p.2.2 o.keep) (hkd : ¬ (o.kind = 1 ∨ o.kind = 2 ∨ o.kind = 3 ∨ o.kind = 4 ∨ o.kind = 5)) : Fn Try.prog 7 #[.pointer (some ⟨b, 0, none⟩), .pointer (some ⟨bx, 0, none⟩), .agg (List.toArray (opC o p))] (dk b bt s :: rk bx s :: L) (fun v L' => ∃ s' : DkS, v = .bool true ∧ L' = dk b bt s' :: rk bx s' :: L) := by
  refine Fn_enter Try.func7 rfl rfl rfl rfl ?_
  refine T_gives (hkp.tail.tail).lay ?_
  have hob := ho.keep
  have hk1 : o.kind ≠ 1 := (fun h => hkd (.inl h))
  have hk2 : o.kind ≠ 2 := (fun h => hkd (.inr (.inl h)))
  have hk3 : o.kind ≠ 3 := (fun h => hkd (.inr (.inr (.inl h))))
  have hk4 : o.kind ≠ 4 := (fun h => hkd (.inr (.inr (.inr (.inl h)))))
  have hk5 : o.kind ≠ 5 := (fun h => hkd (.inr (.inr (.inr (.inr h)))))
  refine T_region ?_
  refine TL_box rfl rfl rfl ?_
  intro b5
  refine TL_y rfl rfl (Y_assign rfl) ?_
  refine TL_nil ?_
  refine T_seq ?_
  refine T_region ?_
  refine TL_y rfl rfl (Y_field_addr rfl) ?_
  refine TL_y rfl rfl (Y_load rfl rfl) ?_
  refine TL_nil ?_
  refine T_block ?_
  rcases (show o.kind = 6 ∨ o.kind = 9 ∨ o.kind = 7 ∨ (o.kind ≠ 6 ∧ o.kind ≠ 9 ∧ o.kind ≠ 7) by omega) with h | h | h | h
  · refine T_region ?_
    refine TL_y rfl rfl (Y_eq rfl rfl) ?_
    refine TL_name 17 (v' := .bool false) rfl (congrArg Value.bool (decide_eq_false (by omega))) ?_
    refine TL_y rfl rfl (Y_assign rfl) ?_
    refine TL_nil ?_
    refine T_cond_false rfl ?_
    refine T_region ?_
    refine TL_y rfl rfl (Y_eq rfl rfl) ?_
    refine TL_name 48 (v' := .bool false) rfl (congrArg Value.bool (decide_eq_false (by omega))) ?_
    refine TL_y rfl rfl (Y_assign rfl) ?_
    refine TL_nil ?_
    refine T_cond_false rfl ?_
    refine T_region ?_
    refine TL_y rfl rfl (Y_eq rfl rfl) ?_
    refine TL_name 59 (v' := .bool false) rfl (congrArg Value.bool (decide_eq_false (by omega))) ?_
    refine TL_y rfl rfl (Y_assign rfl) ?_
    refine TL_nil ?_
    refine T_cond_false rfl ?_
    refine T_region ?_
    refine TL_y rfl rfl (Y_eq rfl rfl) ?_
    refine TL_name 74 (v' := .bool false) rfl (congrArg Value.bool (decide_eq_false (by omega))) ?_
    refine TL_y rfl rfl (Y_assign rfl) ?_
    refine TL_nil ?_
    refine T_cond_false rfl ?_
    refine T_region ?_
    refine TL_y rfl rfl (Y_eq rfl rfl) ?_
    refine TL_name 89 (v' := .bool false) rfl (congrArg Value.bool (decide_eq_false (by omega))) ?_
    refine TL_y rfl rfl (Y_assign rfl) ?_
    refine TL_nil ?_
    refine T_cond_false rfl ?_
    refine T_region ?_
    refine TL_y rfl rfl (Y_eq rfl rfl) ?_
    refine TL_name 100 (v' := .bool true) rfl (congrArg Value.bool (decide_eq_true h)) ?_
    refine TL_y rfl rfl (Y_assign rfl) ?_
    refine TL_nil ?_
    refine T_cond_true rfl ?_
    refine T_region ?_
    refine TL_y rfl rfl (Y_move rfl) ?_
    refine TL_y rfl rfl (Y_field_addr rfl) ?_
    refine TL_y rfl rfl (Y_load rfl rfl) ?_
    refine TL_pullk b ?_
    refine TL_call rfl rfl (diskRead_spec o.name ho.name) ?_
    rintro _ _ ⟨rfl, rfl⟩
    refine TL_y rfl rfl (Y_move rfl) ?_
    refine TL_y rfl rfl (Y_extract rfl rfl) ?_
    refine TL_y rfl rfl (Y_extract rfl rfl) ?_
    refine TL_y rfl rfl (Y_assign rfl) ?_
    refine TL_y rfl rfl (Y_assign rfl) ?_
    refine TL_nil ?_
    refine T_region ?_
    refine TL_y rfl rfl (Y_move rfl) ?_
    refine TL_y rfl rfl (Y_field_addr rfl) ?_
    refine TL_y rfl rfl (Y_load rfl rfl) ?_
    refine TL_pullk bx ?_
    refine TL_call rfl rfl (rkRead_spec o.name) ?_
    rintro _ _ ⟨rfl, rfl⟩
    refine TL_y rfl rfl (Y_move rfl) ?_
    refine TL_y rfl rfl (Y_extract rfl rfl) ?_
    refine TL_y rfl rfl (Y_extract rfl rfl) ?_
    refine TL_y rfl rfl (Y_assign rfl) ?_
    refine TL_y rfl rfl (Y_assign rfl) ?_
    refine TL_nil ?_
    refine T_region ?_
    refine TL_y rfl rfl (Y_move rfl) ?_
    refine TL_y rfl rfl (Y_move rfl) ?_
    refine TL_y rfl rfl (Y_str_eq rfl rfl) ?_
    refine TL_name 117 (v' := .bool true) rfl (congrArg Value.bool (decide_eq_true rfl)) ?_
    refine TL_y rfl rfl (Y_move rfl) ?_
    refine TL_grun rfl rfl ?_
    refine TL_y rfl rfl (Y_move rfl) ?_
    refine TL_grun rfl rfl ?_
    refine TL_y rfl rfl (Y_move rfl) ?_
    refine TL_grun rfl rfl ?_
    refine TL_y rfl rfl (Y_eq rfl rfl) ?_
    refine TL_name 121 (v' := .bool true) rfl (congrArg Value.bool (decide_eq_true rfl)) ?_
    refine TL_y rfl rfl (Y_pick_t rfl rfl) ?_
    refine TL_y rfl rfl (Y_assign rfl) ?_
    refine TL_nil ?_
    refine T_ret ?_
    refine inB_ret ?_
    refine thenS_ret ?_
    refine RetQ.gives (show Gives _ (dk b bt s :: rk bx s :: L) from GivesTo.g) ?_
    exact RetG_1 (.inl rfl) rfl (ResV.tmp rfl) GivesTo.g (⟨s, rfl, rfl⟩)
  · refine T_region ?_
    refine TL_y rfl rfl (Y_eq rfl rfl) ?_
    refine TL_name 17 (v' := .bool false) rfl (congrArg Value.bool (decide_eq_false (by omega))) ?_
    refine TL_y rfl rfl (Y_assign rfl) ?_
    refine TL_nil ?_
    refine T_cond_false rfl ?_
    refine T_region ?_
    refine TL_y rfl rfl (Y_eq rfl rfl) ?_
    refine TL_name 48 (v' := .bool false) rfl (congrArg Value.bool (decide_eq_false (by omega))) ?_
    refine TL_y rfl rfl (Y_assign rfl) ?_
    refine TL_nil ?_
    refine T_cond_false rfl ?_
    refine T_region ?_
    refine TL_y rfl rfl (Y_eq rfl rfl) ?_
    refine TL_name 59 (v' := .bool false) rfl (congrArg Value.bool (decide_eq_false (by omega))) ?_
    refine TL_y rfl rfl (Y_assign rfl) ?_
    refine TL_nil ?_
    refine T_cond_false rfl ?_
    refine T_region ?_
    refine TL_y rfl rfl (Y_eq rfl rfl) ?_
    refine TL_name 74 (v' := .bool false) rfl (congrArg Value.bool (decide_eq_false (by omega))) ?_
    refine TL_y rfl rfl (Y_assign rfl) ?_
    refine TL_nil ?_
    refine T_cond_false rfl ?_
    refine T_region ?_
    refine TL_y rfl rfl (Y_eq rfl rfl) ?_
    refine TL_name 89 (v' := .bool false) rfl (congrArg Value.bool (decide_eq_false (by omega))) ?_
    refine TL_y rfl rfl (Y_assign rfl) ?_
    refine TL_nil ?_
    refine T_cond_false rfl ?_
    refine T_region ?_
    refine TL_y rfl rfl (Y_eq rfl rfl) ?_
    refine TL_name 100 (v' := .bool false) rfl (congrArg Value.bool (decide_eq_false (by omega))) ?_
    refine TL_y rfl rfl (Y_assign rfl) ?_
    refine TL_nil ?_
    refine T_cond_false rfl ?_
    refine T_region ?_
    refine TL_y rfl rfl (Y_eq rfl rfl) ?_
    refine TL_name 124 (v' := .bool true) rfl (congrArg Value.bool (decide_eq_true h)) ?_
    refine TL_y rfl rfl (Y_assign rfl) ?_
    refine TL_nil ?_
    refine T_cond_true rfl ?_
    refine T_region ?_
    refine TL_y rfl rfl (Y_move rfl) ?_
    refine TL_y rfl rfl (Y_field_addr rfl) ?_
    refine TL_y rfl rfl (Y_load rfl rfl) ?_
    refine TL_pullk b ?_
    refine TL_call rfl rfl (diskStop_spec o.n ho.n) ?_
    rintro _ _ ⟨rfl, rfl⟩
    refine TL_nil ?_
    refine T_region_last ?_
    refine TL_y rfl rfl (Y_move rfl) ?_
    refine TL_y rfl rfl (Y_field_addr rfl) ?_
    refine TL_y rfl rfl (Y_load rfl rfl) ?_
    refine TL_pullk bx ?_
    refine TL_call rfl rfl (rkStop_spec o.n ho.n) ?_
    rintro _ _ ⟨rfl, rfl⟩
    refine TL_nil ?_
    refine inB_normal ?_
    refine thenS_normal ?_
    refine T_region ?_
    refine TL_y rfl rfl (Y_move rfl) ?_
    refine TL_y rfl rfl (Y_move rfl) ?_
    refine TL_gives (show Gives _ (dk b bt (stopK s o.n) :: rk bx (stopK s o.n) :: L) from GivesTo.g) ?_
    refine TL_call rfl rfl (looks_spec) ?_
    rintro _ _ ⟨rfl, rfl⟩
    refine TL_y rfl rfl (Y_assign rfl) ?_
    refine TL_nil ?_
    refine T_ret ?_
    exact RetG_1 (.inl rfl) rfl (ResV.tmp rfl) GivesTo.g (⟨stopK s o.n, rfl, rfl⟩)
  · refine T_region ?_
    refine TL_y rfl rfl (Y_eq rfl rfl) ?_
    refine TL_name 17 (v' := .bool false) rfl (congrArg Value.bool (decide_eq_false (by omega))) ?_
    refine TL_y rfl rfl (Y_assign rfl) ?_
    refine TL_nil ?_
    refine T_cond_false rfl ?_
    refine T_region ?_
    refine TL_y rfl rfl (Y_eq rfl rfl) ?_
    refine TL_name 48 (v' := .bool false) rfl (congrArg Value.bool (decide_eq_false (by omega))) ?_
    refine TL_y rfl rfl (Y_assign rfl) ?_
    refine TL_nil ?_
    refine T_cond_false rfl ?_
    refine T_region ?_
    refine TL_y rfl rfl (Y_eq rfl rfl) ?_
    refine TL_name 59 (v' := .bool false) rfl (congrArg Value.bool (decide_eq_false (by omega))) ?_
    refine TL_y rfl rfl (Y_assign rfl) ?_
    refine TL_nil ?_
    refine T_cond_false rfl ?_
    refine T_region ?_
    refine TL_y rfl rfl (Y_eq rfl rfl) ?_
    refine TL_name 74 (v' := .bool false) rfl (congrArg Value.bool (decide_eq_false (by omega))) ?_
    refine TL_y rfl rfl (Y_assign rfl) ?_
    refine TL_nil ?_
    refine T_cond_false rfl ?_
    refine T_region ?_
    refine TL_y rfl rfl (Y_eq rfl rfl) ?_
    refine TL_name 89 (v' := .bool false) rfl (congrArg Value.bool (decide_eq_false (by omega))) ?_
    refine TL_y rfl rfl (Y_assign rfl) ?_
    refine TL_nil ?_
    refine T_cond_false rfl ?_
    refine T_region ?_
    refine TL_y rfl rfl (Y_eq rfl rfl) ?_
    refine TL_name 100 (v' := .bool false) rfl (congrArg Value.bool (decide_eq_false (by omega))) ?_
    refine TL_y rfl rfl (Y_assign rfl) ?_
    refine TL_nil ?_
    refine T_cond_false rfl ?_
    refine T_region ?_
    refine TL_y rfl rfl (Y_eq rfl rfl) ?_
    refine TL_name 124 (v' := .bool false) rfl (congrArg Value.bool (decide_eq_false (by omega))) ?_
    refine TL_y rfl rfl (Y_assign rfl) ?_
    refine TL_nil ?_
    refine T_cond_false rfl ?_
    refine T_region ?_
    refine TL_y rfl rfl (Y_eq rfl rfl) ?_
    refine TL_name 134 (v' := .bool true) rfl (congrArg Value.bool (decide_eq_true h)) ?_
    refine TL_y rfl rfl (Y_assign rfl) ?_
    refine TL_nil ?_
    refine T_cond_true rfl ?_
    refine T_region_draw (cells b5 (opC o p) 31 :: []) [0, 0, 0, 4, 14, 31, 0, 0, 128, 511, 1023, 2047] [] [(0, true), (2, true), (3, true), (6, true), (7, true), (8, true), (1, false), (4, false), (5, false), (9, false), (10, true), (11, true)] (by kernel_rfl) (by decide +kernel) GivesTo.g ?_
    refine TF_y rfl rfl (Y_move rfl) ?_
    refine TF_y rfl rfl (Y_field_addr rfl) ?_
    refine TF_y rfl rfl (Y_load rfl rfl) ?_
    refine TF_y rfl rfl (Y_move rfl) ?_
    refine TF_y rfl rfl (Y_field_addr rfl) ?_
    refine TF_y rfl rfl (Y_load rfl rfl) ?_
    refine TF_anchor rfl ?_
    refine TL_build_slice rfl rfl rfl rfl rfl rfl ?_
    intro b136
    refine TL_osl (k := 0) tornR [] (Knows.const fun M => rfl) rfl (by simp) ?_
    refine TL_name 136 (v' := .slice (some ⟨b136, 0, none⟩) ([] : List TornD).length 0) rfl rfl ?_
    refine TF_end GivesTo.g ?_
    refine TF_anchor rfl ?_
    refine TL_append (R := tornR) (ys := o.keep) rfl rfl rfl rfl rfl (slk (A := p.2.1) (c := p.2.2)) (by simp only [List.length_nil]; omega) ?_
    intro A139 c139
    simp only [List.nil_append]
    refine TF_end GivesTo.g ?_
    refine TF_anchor rfl ?_
    refine TL_pullk b ?_
    refine TL_call rfl rfl (diskCrash_spec (keep := o.keep) (sln (A := A139) (c := c139))) ?_
    rintro _ _ ⟨rfl, rfl⟩
    refine TF_end GivesTo.g ?_
    refine TF_anchor rfl ?_
    refine TL_pullk bx ?_
    refine TL_call rfl rfl (rkCrash_spec (keep := o.keep) (sln (A := p.2.1) (c := p.2.2))) ?_
    rintro _ _ ⟨rfl, rfl⟩
    refine TF_end GivesTo.g ?_
    refine TF_y rfl rfl (Y_eq rfl rfl) ?_
    refine TF_name 145 (v' := .bool true) rfl (congrArg Value.bool (decide_eq_true rfl)) ?_
    refine TF_y rfl rfl (Y_assign rfl) ?_
    refine TF_nil ?_
    refine T_ret ?_
    refine inB_ret ?_
    refine thenS_ret ?_
    refine RetQ.gives (show Gives _ (dk b bt (if crashOk s o.keep then crashK s o.keep else s) :: rk bx (if crashOk s o.keep then crashK s o.keep else s) :: L) from GivesTo.g) ?_
    exact RetG_1 (.inl rfl) rfl (ResV.tmp rfl) GivesTo.g (⟨(if crashOk s o.keep then crashK s o.keep else s), rfl, rfl⟩)
  · refine T_region ?_
    refine TL_y rfl rfl (Y_eq rfl rfl) ?_
    refine TL_name 17 (v' := .bool false) rfl (congrArg Value.bool (decide_eq_false (by omega))) ?_
    refine TL_y rfl rfl (Y_assign rfl) ?_
    refine TL_nil ?_
    refine T_cond_false rfl ?_
    refine T_region ?_
    refine TL_y rfl rfl (Y_eq rfl rfl) ?_
    refine TL_name 48 (v' := .bool false) rfl (congrArg Value.bool (decide_eq_false (by omega))) ?_
    refine TL_y rfl rfl (Y_assign rfl) ?_
    refine TL_nil ?_
    refine T_cond_false rfl ?_
    refine T_region ?_
    refine TL_y rfl rfl (Y_eq rfl rfl) ?_
    refine TL_name 59 (v' := .bool false) rfl (congrArg Value.bool (decide_eq_false (by omega))) ?_
    refine TL_y rfl rfl (Y_assign rfl) ?_
    refine TL_nil ?_
    refine T_cond_false rfl ?_
    refine T_region ?_
    refine TL_y rfl rfl (Y_eq rfl rfl) ?_
    refine TL_name 74 (v' := .bool false) rfl (congrArg Value.bool (decide_eq_false (by omega))) ?_
    refine TL_y rfl rfl (Y_assign rfl) ?_
    refine TL_nil ?_
    refine T_cond_false rfl ?_
    refine T_region ?_
    refine TL_y rfl rfl (Y_eq rfl rfl) ?_
    refine TL_name 89 (v' := .bool false) rfl (congrArg Value.bool (decide_eq_false (by omega))) ?_
    refine TL_y rfl rfl (Y_assign rfl) ?_
    refine TL_nil ?_
    refine T_cond_false rfl ?_
    refine T_region ?_
    refine TL_y rfl rfl (Y_eq rfl rfl) ?_
    refine TL_name 100 (v' := .bool false) rfl (congrArg Value.bool (decide_eq_false (by omega))) ?_
    refine TL_y rfl rfl (Y_assign rfl) ?_
    refine TL_nil ?_
    refine T_cond_false rfl ?_
    refine T_region ?_
    refine TL_y rfl rfl (Y_eq rfl rfl) ?_
    refine TL_name 124 (v' := .bool false) rfl (congrArg Value.bool (decide_eq_false (by omega))) ?_
    refine TL_y rfl rfl (Y_assign rfl) ?_
    refine TL_nil ?_
    refine T_cond_false rfl ?_
    refine T_region ?_
    refine TL_y rfl rfl (Y_eq rfl rfl) ?_
    refine TL_name 134 (v' := .bool false) rfl (congrArg Value.bool (decide_eq_false (by omega))) ?_
    refine TL_y rfl rfl (Y_assign rfl) ?_
    refine TL_nil ?_
    refine T_cond_false rfl ?_
    refine T_skip ?_
    refine inB_normal ?_
    refine thenS_normal ?_
    refine T_region ?_
    refine TL_y rfl rfl (Y_move rfl) ?_
    refine TL_y rfl rfl (Y_move rfl) ?_
    refine TL_gives (show Gives _ (dk b bt s :: rk bx s :: L) from GivesTo.g) ?_
    refine TL_call rfl rfl (looks_spec) ?_
    rintro _ _ ⟨rfl, rfl⟩
    refine TL_y rfl rfl (Y_assign rfl) ?_
    refine TL_nil ?_
    refine T_ret ?_
    exact RetG_1 (.inl rfl) rfl (ResV.tmp rfl) GivesTo.g (⟨s, rfl, rfl⟩)
theorem does_spec {L : List HP} {b bt bx : Nat} {s : DkS} (o : OpD) (p : (Option Addr × Nat) × (Option Addr × Nat)) (ho : opOk o) (hb : SlK L (intR .u8) p.1.1 p.1.2 o.bytes) (hub : ∀ x ∈ o.bytes, 0 ≤ x ∧ x ≤ 255) (hkp : SlK L tornR p.2.1 p.2.2 o.keep) : Fn Try.prog 7 #[.pointer (some ⟨b, 0, none⟩), .pointer (some ⟨bx, 0, none⟩), .agg (List.toArray (opC o p))] (dk b bt s :: rk bx s :: L) (fun v L' => ∃ s' : DkS, v = .bool true ∧ L' = dk b bt s' :: rk bx s' :: L) := by
  by_cases hkd : o.kind = 1 ∨ o.kind = 2 ∨ o.kind = 3 ∨ o.kind = 4 ∨ o.kind = 5
  · exact (does15_spec (s := s) (t := s) o p ho hb hub hkd).cases_ fun v L' ⟨r, s', t', h1, h2, h3⟩ => by
      obtain ⟨rfl, rfl⟩ := h3 rfl
      exact ⟨s', h1, h2⟩
  · exact does6_spec o p ho hkp hkd
structure DdSt where
  i : Nat
  s : DkS
  b : Nat
  bt : Nat
theorem diskDoes_bad {L : List HP} {A : Option Addr} {c : Nat} {l : List OpD} (n : Int) (h : ¬ (0 ≤ n ∧ n ≤ 268435456)) : Fn Try.prog 4 #[.int .i64 n, .slice A l.length c] L (fun v L' => v = .bool true ∧ L' = L) := by
  refine Fn_enter Try.func4 rfl rfl rfl rfl ?_
  refine T_gives (Gives.pure_intro trivial) ?_
  refine T_region ?_
  refine TL_y rfl rfl (Y_assign rfl) ?_
  refine TL_nil ?_
  refine T_region ?_
  refine TL_y rfl rfl (Y_move rfl) ?_
  refine TL_call rfl rfl (diskNew_bad n h _) ?_
  rintro _ _ ⟨rfl, rfl⟩
  refine TL_y rfl rfl (Y_move rfl) ?_
  refine TL_y rfl rfl (Y_extract rfl rfl) ?_
  refine TL_y rfl rfl (Y_extract rfl rfl) ?_
  refine TL_y rfl rfl (Y_assign rfl) ?_
  refine TL_y rfl rfl (Y_assign rfl) ?_
  refine TL_nil ?_
  refine T_region ?_
  refine TL_y rfl rfl (Y_move rfl) ?_
  refine TL_call rfl rfl (rkNew_bad n h _) ?_
  rintro _ _ ⟨rfl, rfl⟩
  refine TL_y rfl rfl (Y_move rfl) ?_
  refine TL_y rfl rfl (Y_extract rfl rfl) ?_
  refine TL_y rfl rfl (Y_extract rfl rfl) ?_
  refine TL_y rfl rfl (Y_assign rfl) ?_
  refine TL_y rfl rfl (Y_assign rfl) ?_
  refine TL_nil ?_
  refine T_seq ?_
  refine T_region ?_
  refine TL_call rfl rfl (lives03_spec _) ?_
  rintro _ _ ⟨rfl, rfl⟩
  refine TL_name 21 (v' := .bool true) rfl (rfl) ?_
  refine TL_y rfl rfl (Y_not_t rfl) ?_
  refine TL_y rfl rfl (Y_move rfl) ?_
  refine TL_grun rfl rfl ?_
  refine TL_y rfl rfl (Y_move rfl) ?_
  refine TL_grun rfl rfl ?_
  refine TL_y rfl rfl (Y_move rfl) ?_
  refine TL_grun rfl rfl ?_
  refine TL_y rfl rfl (Y_ne rfl rfl) ?_
  refine TL_name 26 (v' := .bool false) rfl (congrArg Value.bool (by decide)) ?_
  refine TL_y rfl rfl (Y_pick_f rfl rfl) ?_
  refine TL_y rfl rfl (Y_move rfl) ?_
  refine TL_grun rfl rfl ?_
  refine TL_y rfl rfl (Y_move rfl) ?_
  refine TL_grun rfl rfl ?_
  refine TL_y rfl rfl (Y_equal rfl rfl (EqIs.ptr_nil)) ?_
  refine TL_name 30 (v' := .bool true) rfl (by simp) ?_
  refine TL_grun rfl rfl ?_
  refine TL_y rfl rfl (Y_move rfl) ?_
  refine TL_grun rfl rfl ?_
  refine TL_y rfl rfl (Y_equal rfl rfl (EqIs.ptr_nil)) ?_
  refine TL_name 32 (v' := .bool true) rfl (by simp) ?_
  refine TL_grun rfl rfl ?_
  refine TL_y rfl rfl (Y_unequal rfl rfl (EqIs.bool)) ?_
  refine TL_name 33 (v' := .bool false) rfl (rfl) ?_
  refine TL_y rfl rfl (Y_pick_f rfl rfl) ?_
  refine TL_nil ?_
  refine T_cond_false rfl ?_
  refine T_skip ?_
  refine thenS_normal ?_
  refine T_seq ?_
  refine T_region ?_
  refine TL_y rfl rfl (Y_assign rfl) ?_
  refine TL_nil ?_
  refine T_block ?_
  refine T_loopK (σ := Unit) [1, 7] (fun u => True) (fun u kv => (9, .int .i64 0) :: (5, .pointer none) :: kv) (fun u => L) (fun u => 0) (()) rfl (trivial) (GivesTo.g) (sub_cons rfl (sub_cons rfl (sub_cons rfl (sub_cons rfl (sub_nil))))) ?_
  intro u _
  refine T_seq ?_
  refine T_region ?_
  refine TL_y rfl rfl (Y_move rfl) ?_
  refine TL_y rfl rfl (Y_move rfl) ?_
  refine TL_y rfl rfl (Y_len rfl) ?_
  refine TL_y rfl rfl (Y_lt rfl rfl) ?_
  refine TL_y rfl rfl (Y_move rfl) ?_
  refine TL_splitd 39 rfl (fun h39 => ?_) (fun h39 => ?_)
  · refine TL_grun rfl rfl ?_
    refine TL_y rfl rfl (Y_move rfl) ?_
    refine TL_grun rfl rfl ?_
    refine TL_y rfl rfl (Y_unequal rfl rfl (EqIs.ptr_nil)) ?_
    refine TL_name 41 (v' := .bool false) rfl (by simp) ?_
    refine TL_y rfl rfl (Y_pick_t rfl rfl) ?_
    refine TL_nil ?_
    refine T_cond_false rfl ?_
    refine T_exit ?_
    refine thenS_exit ?_
    refine thenS_exit ?_
    refine inB_hit ?_
    refine thenS_normal ?_
    refine T_region ?_
    refine TL_y rfl rfl (Y_move rfl) ?_
    refine TL_y rfl rfl (Y_equal rfl rfl (EqIs.ptr_nil)) ?_
    refine TL_name 71 (v' := .bool true) rfl (by simp) ?_
    refine TL_y rfl rfl (Y_move rfl) ?_
    refine TL_gskip rfl rfl rfl rfl ?_
    refine TL_gskip rfl rfl rfl rfl ?_
    refine TL_gskip rfl rfl rfl rfl ?_
    refine TL_y rfl rfl (Y_pick_t rfl rfl) ?_
    refine TL_y rfl rfl (Y_assign rfl) ?_
    refine TL_nil ?_
    refine T_ret ?_
    exact RetG_1 (.inl rfl) rfl (ResV.tmp rfl) GivesTo.g (⟨rfl, rfl⟩)
  · refine TL_gskip rfl rfl rfl rfl ?_
    refine TL_gskip rfl rfl rfl rfl ?_
    refine TL_y rfl rfl (Y_pick_f rfl rfl) ?_
    refine TL_nil ?_
    refine T_cond_false rfl ?_
    refine T_exit ?_
    refine thenS_exit ?_
    refine thenS_exit ?_
    refine inB_hit ?_
    refine thenS_normal ?_
    refine T_region ?_
    refine TL_y rfl rfl (Y_move rfl) ?_
    refine TL_y rfl rfl (Y_equal rfl rfl (EqIs.ptr_nil)) ?_
    refine TL_name 71 (v' := .bool true) rfl (by simp) ?_
    refine TL_y rfl rfl (Y_move rfl) ?_
    refine TL_gskip rfl rfl rfl rfl ?_
    refine TL_gskip rfl rfl rfl rfl ?_
    refine TL_gskip rfl rfl rfl rfl ?_
    refine TL_y rfl rfl (Y_pick_t rfl rfl) ?_
    refine TL_y rfl rfl (Y_assign rfl) ?_
    refine TL_nil ?_
    refine T_ret ?_
    exact RetG_1 (.inl rfl) rfl (ResV.tmp rfl) GivesTo.g (⟨rfl, rfl⟩)
abbrev nmOther : ByteArray := ⟨#[111, 116, 104, 101, 114]⟩
theorem diskDoes_good {L : List HP} {A : Option Addr} {c : Nat} {l : List OpD} (n : Int) (h : 0 ≤ n ∧ n ≤ 268435456) (hk : SlK L opR A c l) (hl : l.length ≤ 17592186044416) : Fn Try.prog 4 #[.int .i64 n, .slice A l.length c] L (fun v L' => v = .bool true ∧ L' = L) := by
  refine Fn_enter Try.func4 rfl rfl rfl rfl ?_
  refine T_gives hk.lay ?_
  refine T_region ?_
  refine TL_y rfl rfl (Y_assign rfl) ?_
  refine TL_nil ?_
  refine T_region ?_
  refine TL_y rfl rfl (Y_move rfl) ?_
  refine TL_call rfl rfl (diskNew_ok n h _) ?_
  rintro _ _ ⟨b0, bt0, rfl, rfl⟩
  refine TL_y rfl rfl (Y_move rfl) ?_
  refine TL_y rfl rfl (Y_extract rfl rfl) ?_
  refine TL_y rfl rfl (Y_extract rfl rfl) ?_
  refine TL_y rfl rfl (Y_assign rfl) ?_
  refine TL_y rfl rfl (Y_assign rfl) ?_
  refine TL_nil ?_
  refine T_region ?_
  refine TL_y rfl rfl (Y_move rfl) ?_
  refine TL_call rfl rfl (rkNew_ok n h _) ?_
  rintro _ _ ⟨bx, rfl, rfl⟩
  refine TL_y rfl rfl (Y_move rfl) ?_
  refine TL_y rfl rfl (Y_extract rfl rfl) ?_
  refine TL_y rfl rfl (Y_extract rfl rfl) ?_
  refine TL_y rfl rfl (Y_assign rfl) ?_
  refine TL_y rfl rfl (Y_assign rfl) ?_
  refine TL_nil ?_
  refine T_seq ?_
  refine T_region ?_
  refine TL_call rfl rfl (lives03_spec _) ?_
  rintro _ _ ⟨rfl, rfl⟩
  refine TL_name 21 (v' := .bool true) rfl (rfl) ?_
  refine TL_y rfl rfl (Y_not_t rfl) ?_
  refine TL_y rfl rfl (Y_move rfl) ?_
  refine TL_grun rfl rfl ?_
  refine TL_y rfl rfl (Y_move rfl) ?_
  refine TL_grun rfl rfl ?_
  refine TL_y rfl rfl (Y_move rfl) ?_
  refine TL_grun rfl rfl ?_
  refine TL_y rfl rfl (Y_ne rfl rfl) ?_
  refine TL_name 26 (v' := .bool false) rfl (congrArg Value.bool (by decide)) ?_
  refine TL_y rfl rfl (Y_pick_f rfl rfl) ?_
  refine TL_y rfl rfl (Y_move rfl) ?_
  refine TL_grun rfl rfl ?_
  refine TL_y rfl rfl (Y_move rfl) ?_
  refine TL_grun rfl rfl ?_
  refine TL_y rfl rfl (Y_equal rfl rfl (EqIs.ptr_nil)) ?_
  refine TL_name 30 (v' := .bool false) rfl (by simp) ?_
  refine TL_grun rfl rfl ?_
  refine TL_y rfl rfl (Y_move rfl) ?_
  refine TL_grun rfl rfl ?_
  refine TL_y rfl rfl (Y_equal rfl rfl (EqIs.ptr_nil)) ?_
  refine TL_name 32 (v' := .bool false) rfl (by simp) ?_
  refine TL_grun rfl rfl ?_
  refine TL_y rfl rfl (Y_unequal rfl rfl (EqIs.bool)) ?_
  refine TL_name 33 (v' := .bool false) rfl (rfl) ?_
  refine TL_y rfl rfl (Y_pick_f rfl rfl) ?_
  refine TL_nil ?_
  refine T_cond_false rfl ?_
  refine T_skip ?_
  refine thenS_normal ?_
  refine T_seq ?_
  refine T_region ?_
  refine TL_y rfl rfl (Y_assign rfl) ?_
  refine TL_nil ?_
  refine T_block ?_
  refine T_loopK (σ := DdSt) [1, 7] (fun g => g.i ≤ l.length) (fun g kv => (9, .int .i64 (g.i : Int)) :: (5, .pointer (some ⟨g.b, 0, none⟩)) :: kv) (fun g => dk g.b g.bt g.s :: rk bx g.s :: sl opR A c l :: L) (fun g => l.length - g.i) (⟨0, dkNew n, b0, bt0⟩) rfl (Nat.zero_le _) ((show Gives _ (dk b0 bt0 (dkNew n) :: rk bx (dkNew n) :: sl opR A c l :: L) from GivesTo.g)) (sub_cons rfl (sub_cons rfl (sub_cons rfl (sub_cons rfl (sub_nil))))) ?_
  rintro ⟨i, s, b, bt⟩ hil
  dsimp only at hil ⊢
  refine T_seq ?_
  refine T_region ?_
  refine TL_y rfl rfl (Y_move rfl) ?_
  refine TL_y rfl rfl (Y_move rfl) ?_
  refine TL_y rfl rfl (Y_len rfl) ?_
  refine TL_y rfl rfl (Y_lt rfl rfl) ?_
  refine TL_y rfl rfl (Y_move rfl) ?_
  refine TL_splitd 39 rfl (fun h39 => ?_) (fun h39 => ?_)
  · refine TL_grun rfl rfl ?_
    refine TL_y rfl rfl (Y_move rfl) ?_
    refine TL_grun rfl rfl ?_
    refine TL_y rfl rfl (Y_unequal rfl rfl (EqIs.ptr_nil)) ?_
    refine TL_name 41 (v' := .bool true) rfl (by simp) ?_
    refine TL_y rfl rfl (Y_pick_t rfl rfl) ?_
    refine TL_nil ?_
    refine T_cond_true rfl ?_
    refine T_skip ?_
    refine thenS_normal ?_
    refine T_seq ?_
    refine T_block ?_
    refine T_seq ?_
    obtain ⟨u, hu⟩ : ∃ u, l[i]? = some u := ⟨_, List.getElem?_eq_getElem (by omega)⟩
    refine T_region ?_
    refine TL_y rfl rfl (Y_move rfl) ?_
    refine TL_y rfl rfl (Y_move rfl) ?_
    refine TL_index_n rfl rfl rfl (rfl) ((sln (A := A) (c := c))) (hu) ?_
    intro bn47 on47 hA47 hk47
    have hu47 := hu
    refine TL_y rfl rfl (Y_field_addr2 rfl) ?_
    refine TL_y rfl rfl (Y_load_nx rfl hk47 hu47 (fun _ => rfl)) ?_
    refine TL_y rfl rfl (Y_eq rfl rfl) ?_
    refine TL_nil ?_
    refine T_if rfl (fun h50 => ?_) (fun h50 => ?_)
    · refine T_region ?_
      refine TL_y rfl rfl (Y_move rfl) ?_
      refine TL_pullk b ?_
      refine TL_call rfl rfl (diskFork_spec) ?_
      rintro _ _ ⟨b', bt', s', rfl, rfl, h1, h2, h3, h4⟩
      refine TL_gives (show Gives _ (rk bx s :: dk b' bt' s' :: dk b bt s :: sl opR A c l :: L) from GivesTo.g) ?_
      refine TL_gives (rk_same h1 h2 h3 h4) ?_
      refine TL_y rfl rfl (Y_assign rfl) ?_
      refine TL_nil ?_
      refine T_seq ?_
      refine T_region ?_
      refine TL_y rfl rfl (Y_move rfl) ?_
      refine TL_y rfl rfl (Y_equal rfl rfl (EqIs.ptr_nil)) ?_
      refine TL_name 54 (v' := .bool false) rfl (by simp) ?_
      refine TL_nil ?_
      refine T_cond_false rfl ?_
      refine T_skip ?_
      refine thenS_normal ?_
      refine T_region ?_
      refine TL_y rfl rfl (Y_move rfl) ?_
      refine TL_build_slice rfl rfl rfl rfl rfl rfl ?_
      intro b56
      refine TL_conv_mark (b := b56) (vs := [.int .u8 120]) (xs := [120]) rfl rfl (cells_ints (xs := [120]) (k := .u8) (fun x hx => by rw [List.mem_singleton.1 hx]; decide)) (by decide) (by decide) ?_
      refine TL_pullk b ?_
      refine TL_call rfl rfl (diskAppend_spec nmOther (by decide) (sln (A := some ⟨b56, 0, none⟩) (c := 1) (xs := ([120] : List Int))) (by decide) (by decide)) ?_
      rintro _ _ ⟨k1, rfl, rfl⟩
      refine TL_nil ?_
      refine T_region ?_
      refine TL_y rfl rfl (Y_move rfl) ?_
      refine TL_pullk b ?_
      refine TL_call rfl rfl (diskRemove_spec nmA (by decide)) ?_
      rintro _ _ ⟨rfl, rfl⟩
      refine TL_nil ?_
      refine T_region ?_
      refine TL_y rfl rfl (Y_move rfl) ?_
      refine TL_y rfl rfl (Y_assign rfl) ?_
      refine TL_nil ?_
      refine T_exit ?_
      refine thenS_exit ?_
      refine inB_hit ?_
      refine thenS_normal ?_
      refine T_region_last ?_
      refine TL_y rfl rfl (Y_move rfl) ?_
      refine TL_name 43 (v' := .int .i64 (i : Int)) rfl (rfl) ?_
      refine TL_y rfl rfl (Y_add rfl rfl (by omega)) ?_
      refine TL_name 44 (v' := .int .i64 ((i + 1 : Nat) : Int)) rfl (rfl) ?_
      refine TL_y rfl rfl (Y_assign rfl) ?_
      refine TL_nil ?_
      refine thenS_normal ?_
      exact ⟨⟨i + 1, s', b', bt'⟩, (by simp only; omega), by simp only; omega, holds_to (sub_cons rfl (sub_cons rfl (sub_cons rfl (sub_cons rfl (sub_nil))))) GivesTo.g⟩
    · refine T_skip ?_
      refine thenS_normal ?_
      refine T_region ?_
      refine TL_y rfl rfl (Y_move rfl) ?_
      refine TL_y rfl rfl (Y_move rfl) ?_
      refine TL_y rfl rfl (Y_move rfl) ?_
      refine TL_y rfl rfl (Y_move rfl) ?_
      refine TL_index_n rfl rfl rfl (rfl) ((sln (A := A) (c := c))) (hu) ?_
      intro bn66 on66 hA66 hk66
      have hu66 := hu
      refine TL_load_nx rfl rfl hk66 hu66 (fun _ => rfl) ?_
      intro p67 ok67
      simp only [List.cons_append, List.nil_append]
      refine TL_fact (φ := fun M => sliceAt M (intR .u8) p67.1.1 p67.1.2 u.bytes) slk (fun M h => u8_of h) fun hub => ?_
      refine TL_gives (show Gives _ (dk b bt s :: rk bx s :: sl (intR .u8) p67.1.1 p67.1.2 u.bytes :: sl tornR p67.2.1 p67.2.2 u.keep :: sl opR A c l :: L) from GivesTo.g) ?_
      refine TL_call rfl rfl (does_spec (s := s) u p67 ok67 (slk (A := p67.1.1) (c := p67.1.2)) hub (slk (A := p67.2.1) (c := p67.2.2))) ?_
      rintro _ _ ⟨s', rfl, rfl⟩
      refine TL_y rfl rfl (Y_not rfl) ?_
      refine TL_name 69 (v' := .bool false) rfl (rfl) ?_
      refine TL_nil ?_
      refine T_cond_false rfl ?_
      refine T_skip ?_
      refine inB_normal ?_
      refine thenS_normal ?_
      refine T_region_last ?_
      refine TL_y rfl rfl (Y_move rfl) ?_
      refine TL_name 43 (v' := .int .i64 (i : Int)) rfl (rfl) ?_
      refine TL_y rfl rfl (Y_add rfl rfl (by omega)) ?_
      refine TL_name 44 (v' := .int .i64 ((i + 1 : Nat) : Int)) rfl (rfl) ?_
      refine TL_y rfl rfl (Y_assign rfl) ?_
      refine TL_nil ?_
      refine thenS_normal ?_
      exact ⟨⟨i + 1, s', b, bt⟩, (by simp only; omega), by simp only; omega, holds_to (sub_cons rfl (sub_cons rfl (sub_cons rfl (sub_cons rfl (sub_nil))))) GivesTo.g⟩
  · refine TL_gskip rfl rfl rfl rfl ?_
    refine TL_gskip rfl rfl rfl rfl ?_
    refine TL_y rfl rfl (Y_pick_f rfl rfl) ?_
    refine TL_nil ?_
    refine T_cond_false rfl ?_
    refine T_exit ?_
    refine thenS_exit ?_
    refine thenS_exit ?_
    refine inB_hit ?_
    refine thenS_normal ?_
    refine T_region ?_
    refine TL_y rfl rfl (Y_move rfl) ?_
    refine TL_y rfl rfl (Y_equal rfl rfl (EqIs.ptr_nil)) ?_
    refine TL_name 71 (v' := .bool false) rfl (by simp) ?_
    refine TL_y rfl rfl (Y_move rfl) ?_
    refine TL_grun rfl rfl ?_
    refine TL_y rfl rfl (Y_move rfl) ?_
    refine TL_grun rfl rfl ?_
    refine TL_y rfl rfl (Y_move rfl) ?_
    refine TL_grun rfl rfl ?_
    refine TL_gives (show Gives _ (dk b bt s :: rk bx s :: L) from GivesTo.g) ?_
    refine TL_call rfl rfl (looks_spec) ?_
    rintro _ _ ⟨rfl, rfl⟩
    refine TL_y rfl rfl (Y_pick_f rfl rfl) ?_
    refine TL_y rfl rfl (Y_assign rfl) ?_
    refine TL_nil ?_
    refine T_ret ?_
    exact RetG_1 (.inl rfl) rfl (ResV.tmp rfl) GivesTo.g (⟨rfl, rfl⟩)
theorem diskDoes_walk {L : List HP} {A : Option Addr} {c : Nat} {l : List OpD} (n : Int) (hk : SlK L opR A c l) (hl : l.length ≤ 17592186044416) : Fn Try.prog 4 #[.int .i64 n, .slice A l.length c] L (fun v L' => v = .bool true ∧ L' = L) := by
  by_cases h : 0 ≤ n ∧ n ≤ 268435456
  · exact diskDoes_good n h hk hl
  · exact diskDoes_bad n h
end Go.SL
set_option linter.unusedVariables false
set_option linter.unusedSimpArgs false
namespace Go.SL
open Go Go.RowKit Go.ChangeShapes Go.WideShapes

theorem list_of {α : Type} {p : Nat → α → Prop} : ∀ (n : Nat), (∀ i, i < n → ∃ a, p i a) → ∃ xs : List α, xs.length = n ∧ ∀ i a, xs[i]? = some a → p i a
  | 0, _ => ⟨[], rfl, fun i a h => by simp at h⟩
  | n + 1, h => by
    obtain ⟨xs, h1, h2⟩ := list_of n (fun i hi => h i (by omega))
    obtain ⟨a, ha⟩ := h n (by omega)
    refine ⟨xs ++ [a], by simp [h1], fun i b hb => ?_⟩
    by_cases hi : i < xs.length
    · rw [List.getElem?_append_left hi] at hb; exact h2 i b hb
    · rw [List.getElem?_append_right (by omega)] at hb
      have : i = n := by
        have := (List.getElem?_eq_some_iff.1 hb).1
        simp at this; omega
      subst this
      rw [h1] at hb
      simp at hb
      subst hb; exact ha
theorem mapM_at {α β : Type} {f : α → Option β} : ∀ {l : List α} {r : List β}, l.mapM f = some r → r.length = l.length ∧ ∀ (i : Nat) (x : α), l[i]? = some x → f x = r[i]?
  | [], r, h => by simp at h; subst h; simp
  | x :: l, r, h => by
    simp only [List.mapM_cons] at h
    cases e : f x with
    | none => rw [e] at h; cases h
    | some y =>
      rw [e] at h
      cases e2 : l.mapM f with
      | none => rw [e2] at h; cases h
      | some r' =>
        rw [e2] at h
        cases h
        obtain ⟨h1, h2⟩ := mapM_at e2
        refine ⟨by simp [h1], fun i z hz => ?_⟩
        cases i with
        | zero => simp at hz; subst hz; simpa using e
        | succ i => simpa using h2 i z (by simpa using hz)

/-- A way to count what is read: each value, each letter. -/
structure Bulk (H : Type) where
  f : DataW H → Nat
  one : ∀ d, 1 ≤ f d
  str : ∀ b, b.length + 1 ≤ f (.lit (.string b))
  slice : ∀ e s, (e.map f).sum + 1 ≤ f (.slice e s)
  agg : ∀ ps, (ps.map f).sum + 1 ≤ f (.agg ps)
  ptr : ∀ d, f d + 1 ≤ f (.ptr d)
/-- What is read of type t, of whatever world, is laid as R tells, and bears φ; μ counts it. -/
def Reads {α : Type} (P : Program) (t : TypeId) (R : Rep α) (φ : α → Prop) (μ : α → Nat) : Prop :=
  ∀ (H : Type) (enc : TypeId × Value → H) (W : World) (held : Bool) (fuel : Nat) (cs : List Value) (d : DataW H) (ps : List MemPlace), DataW.trod enc P W 0 (fun _ => true) held fuel t cs = some (d, ps) → (∀ n ∈ d.weights P t, n ≤ reachBytes) →
    ∃ a, R.rep (heapOf W) a cs ∧ φ a ∧ ∀ B : Bulk H, μ a ≤ B.f d
theorem reach_eq : reachBytes = 140737488351232 := rfl
section
variable {P : Program} {t e : TypeId}
theorem wf_in {k : IntKind} {n : Int} (h : (Lit.int k n).wf = true) : intIn k n := by
  simp only [Lit.wf, Bool.and_eq_true, decide_eq_true_eq] at h
  exact h
theorem reads_int {k : IntKind} (ht : P.underlying t = some (.int k)) : Reads P t (intR k) (fun _ => True) (fun _ => 1) := fun H enc W held fuel cs d ps h hw => by
  obtain ⟨n, rfl, hx, hwf⟩ := DataW.trod_int ht h
  exact ⟨n, ⟨rfl, wf_in hwf⟩, trivial, fun B => B.one d⟩
theorem reads_str (ht : P.underlying t = some .string) : Reads P t strR (fun s => s.size ≤ 140737488351232) (fun s => s.size + 1) := fun H enc W held fuel cs d ps h hw => by
  obtain ⟨s, rfl, hx, hs⟩ := DataW.trod_string ht h
  cases hx
  have := hw s.data.toList.length (by simp [DataW.weights])
  rw [reach_eq] at this
  have hsz : s.size = s.data.toList.length := Lib.size_eq s
  exact ⟨s, ⟨rfl, by rw [hsz]; simp only [maxEl]; omega⟩, by show s.size ≤ _; rw [hsz]; exact this, fun B => by show s.size + 1 ≤ _; rw [hsz]; exact B.str _⟩
/-- A slice, of whatever address. -/
def sliceR {α : Type} (R : Rep α) : Rep (List α) := ⟨1, fun M xs cs => ∃ A c, cs = [.slice A xs.length c] ∧ sliceAt M R A c xs, fun hM ⟨A, c, e, h⟩ => ⟨A, c, e, h.mono hM⟩, fun ⟨A, c, e, h⟩ => by rw [e]; rfl, fun ⟨A, c, e, h⟩ v hv => by rw [e] at hv; simp at hv; subst hv; rfl⟩
theorem weightsAll_mem {H : Type} {d : DataW H} {n : Nat} : ∀ {l : List (DataW H)}, d ∈ l → n ∈ d.weights P e → n ∈ DataW.weightsAll P e l
  | x :: l, hd, hn => by
    simp only [DataW.weightsAll, List.mem_append]
    rcases List.mem_cons.1 hd with rfl | hd
    · exact .inl hn
    · exact .inr (weightsAll_mem hd hn)
  | [], hd, _ => by cases hd
theorem sum_le_sum {α β : Type} {f : α → Nat} {g : β → Nat} : ∀ {xs : List α} {ys : List β}, xs.length = ys.length → (∀ (i : Nat) (x : α) (y : β), xs[i]? = some x → ys[i]? = some y → f x ≤ g y) → (xs.map f).sum ≤ (ys.map g).sum
  | [], [], _, _ => by simp
  | x :: xs, y :: ys, hl, h => by
    have h0 := h 0 x y rfl rfl
    have ih := sum_le_sum (xs := xs) (ys := ys) (by simpa using hl) (fun i a b ha hb => h (i + 1) a b (by simpa using ha) (by simpa using hb))
    simp only [List.map_cons, List.sum_cons]
    omega
  | [], _ :: _, hl, _ => by simp at hl
  | _ :: _, [], hl, _ => by simp at hl
theorem reads_slice {α : Type} {R : Rep α} {φ : α → Prop} {μ : α → Nat} (ht : P.underlying t = some (.slice e)) (hsz : P.cellsOf e = R.sz) (h0 : 0 < R.sz) (hb : 0 < P.bytesOf e) (he : Reads P e R φ μ) : Reads P t (sliceR R) (fun xs => xs.length * P.bytesOf e ≤ 140737488351232 ∧ ∀ x ∈ xs, φ x) (fun xs => (xs.map μ).sum + 1) := fun H enc W held fuel cs d ps h hw => by
  rcases DataW.trod_slice ht h with ⟨rfl, hx⟩ | ⟨a, len, cap, elems, rest, n, rfl, rfl, hx, _, hl, hm, hlen, hel, hsp, _⟩
  · exact ⟨[], ⟨none, 0, rfl, sliceAt.nil _ _ _ _⟩, ⟨by simp, fun x hx => by cases hx⟩, fun B => B.one d⟩
  · cases hx
    have hwt : ∀ n ∈ ((elems.map (·.1)).length + (rest.map (·.1)).length) * P.bytesOf e :: (DataW.weightsAll P e (elems.map (·.1)) ++ DataW.weightsAll P e (rest.map (·.1))), n ≤ reachBytes := by
      intro n hn; exact hw n (by simpa [DataW.weights, ht] using hn)
    have hbound : len * P.bytesOf e ≤ 140737488351232 := by
      have := hwt _ (List.mem_cons_self)
      rw [reach_eq] at this
      simp only [List.length_map, hlen] at this
      exact Nat.le_trans (Nat.mul_le_mul_right _ (by omega)) this
    have hle : len ≤ 140737488351232 := Nat.le_trans (Nat.le_mul_of_pos_right _ hb) hbound
    have hall : ∀ i, i < len → ∃ x : α, ((∃ l, R.rep (heapOf W) x l ∧ ∀ j v, l[j]? = some v → W.cell? ((a.add (i * R.sz)).add j) = some v) ∧ φ x) ∧ ∀ y, elems[i]? = some y → ∀ B : Bulk H, μ x ≤ B.f y.1 := by
      intro i hi
      have h1 := hel i hi
      rw [hsz, List.getElem?_eq_getElem (by omega)] at h1
      cases hc : World.cells? W 0 (a.add (i * R.sz)) R.sz with
      | none => rw [hc] at h1; cases h1
      | some cs' =>
        rw [hc] at h1
        simp only [Option.bind_some] at h1
        obtain ⟨x, hx1, hx2, hx3⟩ := he H enc W held n cs' (elems[i]'(by omega)).1 (elems[i]'(by omega)).2 h1 (fun k hk => hwt k (List.mem_cons_of_mem _ (List.mem_append_left _ (weightsAll_mem (List.mem_map.2 ⟨_, List.getElem_mem (by omega), rfl⟩) hk))))
        refine ⟨x, ⟨⟨cs', hx1, fun j v hj => ?_⟩, hx2⟩, fun y hy B => by rw [List.getElem?_eq_getElem (by omega)] at hy; cases hy; exact hx3 B⟩
        simp only [World.cells?, Nat.zero_le, if_true] at hc
        obtain ⟨g1, g2⟩ := mapM_at hc
        have hjl := (List.getElem?_eq_some_iff.1 hj).1
        have := g2 j j (by rw [List.getElem?_range (by simpa [g1] using hjl)])
        rw [this, hj]
    obtain ⟨xs, hxl, hxs⟩ := list_of len hall
    subst hxl
    refine ⟨xs, ⟨some a, cap, rfl, hl, by simp only [maxEl]; omega, ?_⟩, ⟨hbound, fun x hx => let ⟨i, hi⟩ := List.getElem?_of_mem hx; (hxs i x hi).1.2⟩, fun B => ?_⟩
    · cases xs with
      | nil => exact .inl rfl
      | cons x0 xs =>
        right
        obtain ⟨⟨⟨l0, hr0, hc0⟩, _⟩, _⟩ := hxs 0 x0 rfl
        have hl0 := R.len hr0
        obtain ⟨v0, hv0⟩ : ∃ v, l0[0]? = some v := ⟨_, List.getElem?_eq_getElem (by omega)⟩
        have h00 := hc0 0 v0 hv0
        obtain ⟨b, off, spot⟩ := a
        have hspot : spot = none := by simpa [Addr.add] using World.cell?_spot h00
        subst hspot
        obtain ⟨c, t', fr, hblk⟩ : ∃ c t' fr, W.heap[b]? = some (.cells c t' fr) := by
          simp only [World.cell?, Addr.add_plain] at h00
          split at h00
          · exact ⟨_, _, _, by assumption⟩
          · cases h00
        refine ⟨b, off, rfl, c, t', fr, hblk, fun i x hi => ?_⟩
        obtain ⟨⟨⟨l, hr, hc⟩, _⟩, _⟩ := hxs i x hi
        refine ⟨l, hr, fun j v hj => ?_⟩
        have := hc j v hj
        rw [Addr.add_plain, Addr.add_plain, cell_of hblk] at this
        exact this
    · refine Nat.le_trans ?_ (B.slice _ _)
      have := sum_le_sum (f := μ) (g := fun y : DataW H × List MemPlace => B.f y.1) (xs := xs) (ys := elems) hlen.symm (fun i x y hx hy => (hxs i x hx).2 y hy B)
      simp only [List.map_map]
      show (xs.map μ).sum + 1 ≤ _
      have e2 : (B.f ∘ fun x : DataW H × List MemPlace => x.1) = fun y => B.f y.1 := rfl
      rw [e2]
      omega
/-- One argument. -/
theorem arg_reads {α : Type} {R : Rep α} {φ : α → Prop} {μ : α → Nat} (hr : Reads P t R φ μ) {H : Type} {enc : TypeId × Value → H} {W : World} {v : Value} {d : DataW H} {ps : List MemPlace} (h : DataW.Trod enc P W 0 (fun _ => true) true t v d ps) (hw : ∀ n ∈ d.weights P t, n ≤ reachBytes) : ∃ a, R.rep (heapOf W) a v.cells.toList ∧ φ a ∧ ∀ B : Bulk H, μ a ≤ B.f d :=
  let ⟨fuel, h⟩ := h
  hr H enc W true fuel _ d ps h hw
theorem arg_slice {α : Type} {R : Rep α} {φ : List α → Prop} {μ : List α → Nat} (ht : P.underlying t = some (.slice e)) (hr : Reads P t (sliceR R) φ μ) {H : Type} {enc : TypeId × Value → H} {W : World} {base : Nat} {v : Value} {d : DataW H} {ps : List MemPlace} (hval : Value.okWide P W .any base t v) (h : DataW.Trod enc P W 0 (fun _ => true) true t v d ps) (hw : ∀ n ∈ d.weights P t, n ≤ reachBytes) :
    ∃ A c xs, v = .slice A xs.length c ∧ sliceAt (heapOf W) R A c xs ∧ φ xs ∧ ∀ B : Bulk H, μ xs ≤ B.f d := by
  obtain ⟨A, n, c, rfl⟩ := okWide_slice ht hval
  obtain ⟨xs, ⟨A', c', e, h1⟩, h2⟩ := arg_reads hr h hw
  simp only [Value.cells, List.cons.injEq, and_true] at e
  cases e
  exact ⟨_, _, xs, rfl, h1, h2⟩
theorem arg_int {k : IntKind} (ht : P.underlying t = some (.int k)) {H : Type} {enc : TypeId × Value → H} {W : World} {base : Nat} {v : Value} {d : DataW H} {ps : List MemPlace} (hval : Value.okWide P W .any base t v) (h : DataW.Trod enc P W 0 (fun _ => true) true t v d ps) : ∃ n, v = .int k n ∧ intIn k n := by
  obtain ⟨n, rfl, _, _, hw⟩ := open_int ht hval h
  exact ⟨n, rfl, wf_in hw⟩
end

section
variable {P : Program} {t : TypeId} {H : Type} {enc : TypeId × Value → H} {W : World} {held : Bool}
theorem weightsEach_mem {k : Nat} : ∀ {ts : List TypeId} {ds : List (DataW H)} {i : Nat} {t : TypeId} {d : DataW H}, ts[i]? = some t → ds[i]? = some d → k ∈ d.weights P t → k ∈ DataW.weightsEach P ts ds :=
  fun ht hd hk => DataW.weights_mem_each ht hd _ hk
/-- A record is read field by field. -/
theorem reads_fields {fs : Array Field} {fuel : Nat} {cs : List Value} {d : DataW H} {ps : List MemPlace} (ht : P.underlying t = some (.struct fs)) (h : DataW.trod enc P W 0 (fun _ => true) held fuel t cs = some (d, ps)) (hw : ∀ n ∈ d.weights P t, n ≤ reachBytes) :
    ∃ (ds : List (DataW H)) (n : Nat), d = .agg ds ∧ cs.length = P.cellsOf t ∧ ds.length = fs.size ∧ ∀ (i : Nat) (f : Field), fs[i]? = some f → ∃ d' ps', ds[i]? = some d' ∧ DataW.trod enc P W 0 (fun _ => true) held n f.type ((cs.drop f.offset).take (P.cellsOf f.type)) = some (d', ps') ∧ ∀ k ∈ d'.weights P f.type, k ≤ reachBytes := by
  obtain ⟨xs, n, _, hx, hl, hlen, hf⟩ := DataW.trod_struct ht h
  cases hx
  refine ⟨_, n, rfl, hl, by simp [hlen], fun i f hi => ?_⟩
  have hil : i < xs.length := by rw [hlen]; exact (Array.getElem?_eq_some_iff.1 hi).1
  have h1 := hf i f hi
  rw [List.getElem?_eq_getElem hil] at h1
  refine ⟨xs[i].1, xs[i].2, by simp [hil], h1, fun k hk => hw k ?_⟩
  simp only [DataW.weights, ht]
  exact weightsEach_mem (i := i) (t := f.type) (d := xs[i].1) (by simp [hi]) (by simp [hil]) hk
end
/-! ### What is kept -/
theorem sat_init {W : World} {L : List HP} (h : Sep L (heapOf W) Mem.emp) : Sat W W L := ⟨⟨heapOf W, Mem.emp, Mem.disj_symm (Mem.emp_disj _), Mem.le_refl _, Mem.emp_le _, h⟩, rfl, rfl, rfl, Nat.le_refl _⟩
theorem sep_nil {M : Mem} : Sep [] M Mem.emp := trivial
theorem sep_cons {M : Mem} {p : HP} {L : List HP} (h : p.holds M Mem.emp) (k : Sep L M Mem.emp) : Sep (p :: L) M Mem.emp := ⟨Mem.emp, Mem.emp, Mem.emp_disj _, Mem.le_refl _, Mem.le_refl _, h, k⟩
theorem below_of {W w' : World} {L : List HP} (h : Sat W w' (base (heapOf W) :: L)) : Below W.heap.size W w' := by
  obtain ⟨M, k, hd, hM, hk, h1, h2, hd', l1, l2, hp, hs⟩ := h.ex
  refine ⟨h.os, h.tape, h.output, h.size, fun j hj => ?_⟩
  have e : heapOf W j = some (W.heap[j]'hj) := Array.getElem?_eq_getElem hj
  have := hM _ _ (hp _ _ e)
  rw [Array.getElem?_eq_getElem hj]
  exact this
theorem law_calls {P : Program} {f : FuncId} {args : Array Value} {W : World} {L : List HP} (hs : Sep (base (heapOf W) :: L) (heapOf W) Mem.emp) (h : Fn P f args (base (heapOf W) :: L) (fun v L' => v = .bool true ∧ L' = base (heapOf W) :: L)) : Calls P f args W fun e W' => e = .returned (.bool true) ∧ Below W.heap.size W W' :=
  (h W W (sat_init hs)).mono fun e w' ⟨v, L', he, ⟨hv, hL⟩, hsat⟩ => by
    subst he; subst hv; subst hL
    exact ⟨rfl, below_of hsat⟩
theorem trodAll_below {H : Type} {enc : TypeId × Value → H} {P : Program} {W W' : World} (hl : laidOutB P = true) (hb : Below W.heap.size W W') : ∀ {ts : List TypeId} {vs : List Value} {ds : List (DataW H)} {ps : List MemPlace}, ts.all (fun t => P.readableRec t && decide (t < P.types.size)) = true → DataW.TrodAll enc P W 0 (fun _ => true) true ts vs ds ps → (∀ x ∈ ps, x.block < W.heap.size) →
    DataW.TrodAll enc P W' 0 (fun b => decide (b < W.heap.size)) true ts vs ds ps
  | [], _, _, _, _, h, _ => by
    obtain ⟨rfl, rfl, rfl⟩ := trodAll_nil h
    exact trodAll_mk0
  | t :: ts, vs, ds, ps, hts, h, hp => by
    obtain ⟨v, vs1, d, ds1, a, b, rfl, rfl, rfl, h1, h2⟩ := trodAll_cons h
    simp only [List.all_cons, Bool.and_eq_true, decide_eq_true_eq] at hts
    exact trodAll_cons_mk (Below.trod hl hts.1.1 hts.1.2 h1 hb (fun x hx => hp x (List.mem_append_left _ hx))) (trodAll_below hl hb hts.2 h2 (fun x hx => hp x (List.mem_append_right _ hx)))
theorem post_true {H : Type} {enc : TypeId × Value → H} {P : Program} {f : Func} {s : ChangeSpec} {apart fresh handsOn : Bool} {W W' : World} {args : Array Value} {ds gs : List (DataW H)} {before : List MemPlace} {tb : TypeId}
    (hW : DataW.Whole enc P f.params.toList s.vars apart W args.toList ds gs before) (hb : Below W.heap.size W W') (hl : laidOutB P = true) (hts : f.params.toList.all (fun t => P.readableRec t && decide (t < P.types.size)) = true) (hr : f.resultTypes = #[tb]) (htb : P.underlying tb = some .bool) (hv : s.vars = [])
    (hfn : s.fn H (ds ++ gs) = { results := [.lit (.bool true)], args := ds }) : s.post enc P f apart fresh handsOn false W args (.bool true) W' := by
  have hW' := hW
  obtain ⟨p, q, hA, hV, rfl, hfz, hnd⟩ := hW
  rw [hv] at hV
  obtain ⟨rfl, rfl⟩ := trodVars_none hV
  refine ⟨ds, [], p ++ [], [], p, [], hW', ?_, ?_, ?_, hb.frame _, fun h => by cases h⟩
  · rw [hfn, hr]
    exact trodAll_cons_mk (shut_bool htb true) trodAll_mk0
  · rw [hfn]
    exact trodAll_below hl hb hts hA (fun x hx => by simpa using hW'.lt x (by simpa using hx))
  · rw [hfn, hv]
    exact (by simp [DataW.TrodVars])
end Go.SL
set_option linter.unusedVariables false
namespace Go.SL
open Go Go.Proofs
theorem cells_ki : Try.prog.cellsOf 3 = 1 := by kernel_rfl
theorem cells_ks : Try.prog.cellsOf 9 = 1 := by kernel_rfl
theorem cells_kb : Try.prog.cellsOf 29 = 1 := by kernel_rfl
theorem cells_kt : Try.prog.cellsOf 23 = 1 := by kernel_rfl
theorem cells_torn : Try.prog.cellsOf 53 = 2 := by kernel_rfl
theorem cells_kop : Try.prog.cellsOf 31 = 6 := by kernel_rfl
theorem bytes_k8 : Try.prog.bytesOf 5 = 1 := by kernel_rfl
theorem bytes_torn : Try.prog.bytesOf 53 = 24 := by kernel_rfl
set_option maxRecDepth 100000 in
theorem reads_torn : Reads Try.prog 53 tornR (fun _ => True) (fun _ => 1) := fun H enc W held fuel cs d ps h hw => by
  obtain ⟨ds, n, rfl, hl, _, hf⟩ := reads_fields Try.underlying53 h hw
  rw [cells_torn] at hl
  match cs, hl with
  | [u, v], _ =>
  obtain ⟨d0, p0, _, h0, w0⟩ := hf 0 _ rfl
  obtain ⟨d1, p1, _, h1, w1⟩ := hf 1 _ rfl
  obtain ⟨x, ⟨e0, i0⟩, _⟩ := reads_str Try.underlying9 H enc W held n _ d0 p0 h0 w0
  obtain ⟨y, ⟨e1, i1⟩, _⟩ := reads_int Try.underlying3 H enc W held n _ d1 p1 h1 w1
  simp [cells_ks] at e0
  simp [cells_ki, cells_ks] at e1
  subst e0; subst e1
  exact ⟨(x, y), ⟨rfl, i0, i1⟩, trivial, fun B => B.one _⟩
theorem reads_bytes : Reads Try.prog 29 (sliceR (intR .u8)) (fun xs => xs.length ≤ 140737488351232) (fun _ => 1) := fun H enc W held fuel cs d ps h hw => by
  obtain ⟨xs, h1, h2, h3⟩ := reads_slice Try.underlying29 (R := intR .u8) (by kernel_rfl) (by decide) (by rw [bytes_k8]; decide) (reads_int Try.underlying5) H enc W held fuel cs d ps h hw
  rw [bytes_k8] at h2
  exact ⟨xs, h1, by have := h2.1; omega, fun B => B.one _⟩
theorem reads_torns : Reads Try.prog 23 (sliceR tornR) (fun xs => xs.length * 24 ≤ 140737488351232) (fun _ => 1) := fun H enc W held fuel cs d ps h hw => by
  obtain ⟨xs, h1, h2, h3⟩ := reads_slice Try.underlying23 (R := tornR) (by kernel_rfl) (by decide) (by rw [bytes_torn]; decide) reads_torn H enc W held fuel cs d ps h hw
  rw [bytes_torn] at h2
  exact ⟨xs, h1, h2.1, fun B => B.one _⟩
theorem sl_consK {α : Type} {R : Rep α} {A : Option Addr} {c : Nat} {xs : List α} {L : List HP} {M : Mem} (k : sliceAt M R A c xs) (h : Sep L M Mem.emp) : Sep (sl R A c xs :: L) M Mem.emp := ⟨Mem.emp, Mem.emp, Mem.emp_disj _, Mem.le_refl _, Mem.le_refl _, k, h⟩
set_option maxRecDepth 100000 in
theorem reads_op : Reads Try.prog 31 opR (fun _ => True) (fun _ => 1) := fun H enc W held fuel cs d ps h hw => by
  obtain ⟨ds, n, rfl, hl, hdl, hf⟩ := reads_fields Try.underlying31 h hw
  rw [cells_kop] at hl
  match cs, hl with
  | [u0, u1, u2, u3, u4, u5], _ =>
  obtain ⟨d0, p0, g0, h0, w0⟩ := hf 0 _ rfl
  obtain ⟨d1, p1, g1, h1, w1⟩ := hf 1 _ rfl
  obtain ⟨d2, p2, g2, h2, w2⟩ := hf 2 _ rfl
  obtain ⟨d3, p3, g3, h3, w3⟩ := hf 3 _ rfl
  obtain ⟨d4, p4, g4, h4, w4⟩ := hf 4 _ rfl
  obtain ⟨d5, p5, g5, h5, w5⟩ := hf 5 _ rfl
  obtain ⟨x0, ⟨e0, i0⟩, _, m0⟩ := reads_int Try.underlying3 H enc W held n _ d0 p0 h0 w0
  obtain ⟨x1, ⟨e1, i1⟩, _, m1⟩ := reads_str Try.underlying9 H enc W held n _ d1 p1 h1 w1
  obtain ⟨x2, ⟨e2, i2⟩, _, m2⟩ := reads_str Try.underlying9 H enc W held n _ d2 p2 h2 w2
  obtain ⟨x3, ⟨A3, c3, e3, i3⟩, k3, m3⟩ := reads_bytes H enc W held n _ d3 p3 h3 w3
  obtain ⟨x4, ⟨e4, i4⟩, _, m4⟩ := reads_int Try.underlying3 H enc W held n _ d4 p4 h4 w4
  obtain ⟨x5, ⟨A5, c5, e5, i5⟩, k5, m5⟩ := reads_torns H enc W held n _ d5 p5 h5 w5
  simp [cells_ki] at e0
  subst e0
  simp [cells_ks] at e1
  subst e1
  simp [cells_ks] at e2
  subst e2
  simp [cells_kb] at e3
  subst e3
  simp [cells_ki] at e4
  subst e4
  simp [cells_kt] at e5
  subst e5
  exact ⟨⟨x0, x1, x2, x3, x4, x5⟩, ⟨((A3, c3), (A5, c5)), rfl, sl_consK i3 (sl_consK i5 trivial), ⟨i0, i1, i2, k3, i4, k5⟩⟩, trivial, fun B => B.one _⟩
end Go.SL
