/- Ballots: the slots of votes; what the document picks; the walk of the law. -/
import Derived.Test.YtibejpgjgkeheaaBalG
import Derived.Test.YtibejpgjgkeheaaBalH
import Derived.Test.YtibejpgjgkeheaaSameA
import Derived.Test.YtibejpgjgkeheaaCpt
import Derived.Test.YtibejpgjgkeheaaSlX
import Derived.Test.YtibejpgjgkeheaaSlU
import Derived.Test.YtibejpgjgkeheaaSlP
set_option linter.unusedVariables false
set_option linter.unusedSimpArgs false
namespace Go.SL
open Go Go.Proofs
def slotL (l : List VotedD) : List Int := l.map fun v => v.slot
theorem incr_ext {xs ys : List Int} (h1 : xs.Pairwise (fun x y => x < y)) (h2 : ys.Pairwise (fun x y => x < y)) (h : ∀ x, x ∈ xs ↔ x ∈ ys) : xs = ys := by
  have n1 : xs.Nodup := h1.imp fun h => by omega
  have n2 : ys.Nodup := h2.imp fun h => by omega
  exact ((List.perm_ext_iff_of_nodup n1 n2).2 h).eq_of_pairwise (fun a b _ _ h1 h2 => by omega) h1 h2
theorem slot_ins {out : List Int} {x : Int} {k : Nat} (hs : out.Pairwise (fun x y => x < y)) (hlt : ∀ q ∈ out.take k, q < x) (hge : ∀ q, out[k]? = some q → x < q) : (out.take k ++ [x] ++ out.drop k).Pairwise (fun x y => x < y) ∧ ∀ y, y ∈ (out.take k ++ [x] ++ out.drop k) ↔ y = x ∨ y ∈ out := by
  have hd : ∀ q ∈ out.drop k, x < q := fun q hq => by
    obtain ⟨j, hj⟩ := List.getElem?_of_mem hq
    rw [List.getElem?_drop] at hj
    obtain ⟨j1, j2⟩ := List.getElem?_eq_some_iff.1 hj
    have hk : out[k]? = some out[k] := List.getElem?_eq_getElem (by omega)
    have := hge _ hk
    rcases Nat.eq_zero_or_pos j with rfl | hp
    · rw [← j2]; exact this
    · have := List.pairwise_iff_getElem.1 hs k (k + j) (by omega) j1 (by omega)
      omega
  refine ⟨List.pairwise_append.2 ⟨List.pairwise_append.2 ⟨hs.sublist (List.take_sublist _ _), List.pairwise_singleton _ _, fun a ha b hb => ?_⟩, hs.sublist (List.drop_sublist _ _), fun a ha b hb => ?_⟩, fun y => ?_⟩
  · rw [List.mem_singleton.1 hb]; exact hlt a ha
  · rcases List.mem_append.1 ha with ha | ha
    · have := hlt a ha; have := hd b hb; omega
    · rw [List.mem_singleton.1 ha]; exact hd b hb
  · rw [List.mem_append, List.mem_append, List.mem_singleton]
    conv => rhs; rw [← List.take_append_drop k out, List.mem_append]
    constructor
    · rintro ((h | h) | h)
      · exact .inr (.inl h)
      · exact .inl h
      · exact .inr (.inr h)
    · rintro (h | h | h)
      · exact .inl (.inr h)
      · exact .inl (.inl h)
      · exact .inr h
structure SsSt where
  i : Nat
  A : Option Addr
  c : Nat
def Rises (l : List VotedD) (ys : List Int) : Prop := ys.Pairwise (fun x y => x < y) ∧ ∀ x, x ∈ ys ↔ x ∈ slotL l
theorem slotL_snoc {l : List VotedD} {i : Nat} {v : VotedD} (h : l[i]? = some v) : slotL (l.take (i + 1)) = slotL (l.take i) ++ [v.slot] := by
  unfold slotL; rw [takeAt h, List.map_append]; rfl
theorem slots_spec {L : List HP} {A : Option Addr} {c : Nat} {l : List VotedD} (hk : SlK L votedR A c l) (hl : l.length ≤ 1466015503701) : Fn Try.prog 16 #[.slice A l.length c] L (fun v L' => ∃ A' c' ys, v = .slice A' ys.length c' ∧ L' = osl (intR .i64) 3 A' c' ys :: L ∧ Rises l ys) := by
  refine Fn_enter Try.func16 rfl rfl rfl rfl ?_
  refine T_gives hk.lay ?_
  refine T_region ?_
  refine TL_y rfl rfl (Y_assign rfl) ?_
  refine TL_nil ?_
  refine T_region ?_
  refine TL_y rfl rfl (Y_assign rfl) ?_
  refine TL_nil ?_
  refine T_seq ?_
  refine T_region ?_
  refine TL_y rfl rfl (Y_move rfl) ?_
  refine TL_y rfl rfl (Y_len rfl) ?_
  refine TL_y rfl rfl (Y_move rfl) ?_
  refine TL_nil ?_
  refine T_block ?_
  refine T_loopK (σ := SsSt) [6, 7] (fun g => g.i ≤ l.length) (fun g kv => (8, .int .i64 (g.i : Int)) :: (3, .slice g.A (slotL (l.take g.i)).length g.c) :: kv) (fun g => osl (intR .i64) 3 g.A g.c (slotL (l.take g.i)) :: sl votedR A c l :: L) (fun g => l.length - g.i) (⟨0, none, 0⟩) rfl (Nat.zero_le _) (osl_nil (intR .i64) 3 none _) (sub_cons rfl (sub_cons rfl (sub_cons rfl (sub_cons rfl (sub_nil))))) ?_
  rintro ⟨i, X, cx⟩ hil
  dsimp only at hil ⊢
  refine T_region ?_
  refine TL_y rfl rfl (Y_lt rfl rfl) ?_
  refine TL_nil ?_
  refine T_seq ?_
  refine T_if rfl (fun h9 => ?_) (fun h9 => ?_)
  · refine T_skip ?_
    refine thenS_normal ?_
    refine T_seq ?_
    refine T_block ?_
    obtain ⟨v, hv⟩ : ∃ v, l[i]? = some v := ⟨_, List.getElem?_eq_getElem (by omega)⟩
    have hsn := slotL_snoc hv
    have hal : (slotL (l.take i)).length ≤ l.length := by unfold slotL; rw [List.length_map, List.length_take]; omega
    refine T_region ?_
    refine TL_index_n rfl rfl rfl (rfl) ((sln (A := A) (c := c))) (hv) ?_
    intro bn10 on10 hA10 hk10
    have hu10 := hv
    refine TL_load_nx rfl rfl hk10 hu10 (fun _ => rfl) ?_
    intro p11 ok11
    simp only [List.cons_append, List.nil_append]
    refine TL_alloc rfl rfl ?_
    intro b5
    refine TL_store rfl rfl rfl rfl rfl rfl ?_
    refine TL_nil ?_
    refine T_region_last ?_
    refine TL_y rfl rfl (Y_move rfl) ?_
    refine TL_y rfl rfl (Y_field_addr rfl) ?_
    refine TL_y rfl rfl (Y_load rfl rfl) ?_
    refine TL_build_slice rfl rfl rfl rfl rfl rfl ?_
    intro b15
    refine TL_osl (k := 1) (intR .i64) [v.slot] (Knows.const fun M => ⟨[.int .i64 v.slot], [], ⟨rfl, ok11.1⟩, rfl, rfl⟩) rfl (by decide) ?_
    refine TL_freeze_osl ?_
    refine TL_name 15 (v' := .slice (some ⟨b15, 0, none⟩) [v.slot].length 1) rfl rfl ?_
    refine TL_append rfl rfl rfl rfl rfl slk (by simp only [List.length_cons, List.length_nil]; omega) ?_
    intro A16 c16
    rw [← hsn]
    refine TL_y rfl rfl (Y_assign rfl) ?_
    refine TL_nil ?_
    refine inB_normal ?_
    refine thenS_normal ?_
    refine T_region_last ?_
    refine TL_y rfl rfl (Y_add rfl rfl (by omega)) ?_
    refine TL_name 17 (v' := .int .i64 ((i + 1 : Nat) : Int)) rfl (rfl) ?_
    refine TL_y rfl rfl (Y_move rfl) ?_
    refine TL_nil ?_
    refine thenS_normal ?_
    exact ⟨⟨i + 1, A16, c16⟩, (by simp only; omega), by simp only; omega, holds_to (sub_cons rfl (sub_cons rfl (sub_cons rfl (sub_cons rfl (sub_nil))))) GivesTo.g⟩
  · refine T_exit ?_
    refine thenS_exit ?_
    refine thenS_exit ?_
    refine inB_hit ?_
    refine thenS_normal ?_
    rw [List.take_of_length_le (show l.length ≤ i by omega)]
    have hsl : (slotL l).length = l.length := by simp [slotL]
    refine T_region ?_
    refine TL_y rfl rfl (Y_move rfl) ?_
    refine TL_call rfl rfl (sort_spec (by omega)) ?_
    rintro _ _ ⟨rfl, rfl⟩
    refine TL_nil ?_
    refine T_region ?_
    refine TL_y rfl rfl (Y_move rfl) ?_
    refine TL_name 20 (v' := .slice X (srt (slotL l)).length cx) rfl (by rw [srt_length]) ?_
    refine TL_call rfl rfl (compact_spec (by rw [srt_length]; omega) (srt_sorted _)) ?_
    rintro _ _ ⟨ys, rfl, rfl, y1, y2⟩
    refine TL_y rfl rfl (Y_assign rfl) ?_
    refine TL_nil ?_
    refine T_ret ?_
    exact RetG_1 (.inl rfl) rfl (ResV.tmp rfl) GivesTo.g (⟨X, cx, ys, rfl, rfl, y1, fun x => (y2 x).trans (srt_perm _).mem_iff⟩)
structure RsSt where
  i : Nat
  A : Option Addr
  c : Nat
  ys : List Int
theorem refSlots_spec {L : List HP} {A : Option Addr} {c : Nat} {l : List VotedD} (hk : SlK L votedR A c l) (hl : l.length ≤ 1466015503701) : Fn Try.prog 17 #[.slice A l.length c] L (fun v L' => ∃ A' c' ys, v = .slice A' ys.length c' ∧ L' = osl (intR .i64) 3 A' c' ys :: L ∧ Rises l ys) := by
  refine Fn_enter Try.func17 rfl rfl rfl rfl ?_
  refine T_gives hk.lay ?_
  refine T_region ?_
  refine TL_y rfl rfl (Y_assign rfl) ?_
  refine TL_nil ?_
  refine T_region ?_
  refine TL_y rfl rfl (Y_assign rfl) ?_
  refine TL_nil ?_
  refine T_seq ?_
  refine T_region ?_
  refine TL_y rfl rfl (Y_assign rfl) ?_
  refine TL_nil ?_
  refine T_block ?_
  refine T_loopK (σ := RsSt) [0] (fun g => g.i ≤ l.length ∧ Rises (l.take g.i) g.ys ∧ g.ys.length ≤ g.i) (fun g kv => (4, .int .i64 (g.i : Int)) :: (3, .slice g.A g.ys.length g.c) :: kv) (fun g => osl (intR .i64) 3 g.A g.c g.ys :: sl votedR A c l :: L) (fun g => l.length - g.i) (⟨0, none, 0, []⟩) rfl (⟨Nat.zero_le _, ⟨List.Pairwise.nil, fun x => by simp [slotL]⟩, Nat.le_refl _⟩) (osl_nil (intR .i64) 3 none _) (sub_cons rfl (sub_cons rfl (sub_cons rfl (sub_nil)))) ?_
  rintro ⟨i, X, cx, ys⟩ ⟨hil, hri, hyl⟩
  dsimp only at hil hri hyl ⊢
  refine T_seq ?_
  refine T_region ?_
  refine TL_y rfl rfl (Y_move rfl) ?_
  refine TL_y rfl rfl (Y_move rfl) ?_
  refine TL_y rfl rfl (Y_len rfl) ?_
  refine TL_y rfl rfl (Y_lt rfl rfl) ?_
  refine TL_nil ?_
  refine T_if rfl (fun h9 => ?_) (fun h9 => ?_)
  · refine T_skip ?_
    refine thenS_normal ?_
    refine T_seq ?_
    refine T_block ?_
    obtain ⟨v, hv⟩ : ∃ v, l[i]? = some v := ⟨_, List.getElem?_eq_getElem (by omega)⟩
    have hsn := slotL_snoc hv
    refine T_addr_n (sln (A := A) (c := c)) hv fun bl ol el => ?_
    refine T_elem_fact (sln (A := A) (c := c)) hv (p := intIn .i64 v.slot) (fun M l h => h.elim fun p h => h.2.2.1) fun hvi => ?_
    refine SlN.lens (sln (A := X) (c := cx)) fun hlx => ?_
    refine T_region ?_
    refine TL_y rfl rfl (Y_assign rfl) ?_
    refine TL_nil ?_
    refine T_seq ?_
    refine T_block ?_
    refine T_loopK (σ := Nat) [0, 3, 4] (fun k => k ≤ ys.length ∧ ∀ q ∈ ys.take k, q < v.slot) (fun k kv => (5, .int .i64 (k : Int)) :: kv) (fun k => osl (intR .i64) 3 X cx ys :: sl votedR A c l :: L) (fun k => ys.length - k) (0) rfl (⟨Nat.zero_le _, by simp⟩) (GivesTo.g) (sub_cons rfl (sub_cons rfl (sub_cons rfl (sub_cons rfl (sub_nil))))) ?_
    intro k hk3
    refine T_seq ?_
    refine Classical.byCases (p := k < ys.length) (fun hlt => ?_) (fun hlt => ?_)
    · obtain ⟨u, hu⟩ : ∃ u, ys[k]? = some u := ⟨_, List.getElem?_eq_getElem hlt⟩
      refine T_addr_n (sln (A := X) (c := cx)) hu fun bq oq eq => ?_
      refine T_region_draw _ [0, 0, 2, 7, 15, 31, 31, 127, 255, 31, 31, 1567, 3615, 7711, 16383, 32767] [] [(0, true), (1, true), (2, true), (3, true), (4, true), (5, true), (6, true), (7, true), (8, true), (9, true), (10, true), (11, true), (12, true), (13, true), (14, true), (15, true)] (by kernel_rfl) (by decide +kernel) (Gives.refl _) ?_
      refine TF_y rfl rfl (Y_move rfl) ?_
      refine TF_y rfl rfl (Y_move rfl) ?_
      refine TF_y rfl rfl (Y_len rfl) ?_
      refine TF_y rfl rfl (Y_lt rfl rfl) ?_
      refine TF_name 15 (v' := .bool true) rfl (congrArg Value.bool (decide_eq_true (by omega))) ?_
      refine TF_y rfl rfl (Y_move rfl) ?_
      refine TF_gy rfl rfl rfl rfl (Y_move rfl) ?_
      refine TF_gy rfl rfl rfl rfl (Y_move rfl) ?_
      refine TF_gy rfl rfl rfl rfl (Y_index_n (R := intR .i64) (xs := ys) (b := bq) (o := oq) (congrArg (fun z ↦ some (Value.slice z ys.length cx)) eq) rfl rfl hu) ?_
      refine TF_gy rfl rfl rfl rfl (Y_load_n (R := intR .i64) (xs := ys) (b := bq) (o := oq) (c := cx) (q := 0) rfl (eq ▸ sln (A := X) (c := cx)) hu rfl) ?_
      refine TF_gy rfl rfl rfl rfl (Y_move rfl) ?_
      refine TF_gy rfl rfl rfl rfl (Y_move rfl) ?_
      refine TF_gy rfl rfl rfl rfl (Y_index_n (R := votedR) (xs := l) (b := bl) (o := ol) (congrArg (fun z ↦ some (Value.slice z l.length c)) el) rfl rfl hv) ?_
      refine TF_gy rfl rfl rfl rfl (Y_field_addr2 rfl) ?_
      refine TF_gy rfl rfl rfl rfl (Y_load_nx (xs := l) (b := bl) (o := ol) (c := c) (u := v) (v := .int .i64 v.slot) rfl (el ▸ sln (A := A) (c := c)) hv (fun _ ↦ rfl)) ?_
      refine TF_gy rfl rfl rfl rfl (Y_lt rfl rfl) ?_
      refine TF_y rfl rfl (Y_pick_t rfl rfl) ?_
      refine TF_nil ?_
      refine T_if rfl (fun h27 => ?_) (fun h27 => ?_)
      · refine T_skip ?_
        refine thenS_normal ?_
        refine T_block ?_
        refine T_region_last ?_
        refine TL_y rfl rfl (Y_move rfl) ?_
        refine TL_y rfl rfl (Y_add rfl rfl (by omega)) ?_
        refine TL_name 29 (v' := .int .i64 ((k + 1 : Nat) : Int)) rfl (rfl) ?_
        refine TL_y rfl rfl (Y_assign rfl) ?_
        refine TL_nil ?_
        refine inB_normal ?_
        refine thenS_normal ?_
        exact ⟨k + 1, ⟨by omega, by rw [takeAt hu]; intro q hq; rcases List.mem_append.1 hq with h | h; exact hk3.2 q h; (simp at h; subst h; exact h27)⟩, by omega, holds_to (sub_cons rfl (sub_cons rfl (sub_cons rfl (sub_cons rfl (sub_nil))))) GivesTo.g⟩
      · refine T_exit ?_
        refine thenS_exit ?_
        refine thenS_exit ?_
        refine inB_hit ?_
        refine thenS_normal ?_
        refine T_region_draw _ [0, 0, 2, 7, 15, 31, 31, 127, 255, 31, 31, 1567, 3615, 7711, 16383, 32767] [] [(0, true), (1, true), (2, true), (3, true), (4, true), (5, true), (6, true), (7, true), (8, true), (9, true), (10, true), (11, true), (12, true), (13, true), (14, true), (15, true)] (by kernel_rfl) (by decide +kernel) (Gives.refl _) ?_
        refine TF_y rfl rfl (Y_move rfl) ?_
        refine TF_y rfl rfl (Y_move rfl) ?_
        refine TF_y rfl rfl (Y_len rfl) ?_
        refine TF_y rfl rfl (Y_eq rfl rfl) ?_
        refine TF_name 33 (v' := .bool false) rfl (congrArg Value.bool (decide_eq_false (by omega))) ?_
        refine TF_y rfl rfl (Y_move rfl) ?_
        refine TF_gy rfl rfl rfl rfl (Y_move rfl) ?_
        refine TF_gy rfl rfl rfl rfl (Y_move rfl) ?_
        refine TF_gy rfl rfl rfl rfl (Y_index_n (R := intR .i64) (xs := ys) (b := bq) (o := oq) (congrArg (fun z ↦ some (Value.slice z ys.length cx)) eq) rfl rfl hu) ?_
        refine TF_gy rfl rfl rfl rfl (Y_load_n (R := intR .i64) (xs := ys) (b := bq) (o := oq) (c := cx) (q := 0) rfl (eq ▸ sln (A := X) (c := cx)) hu rfl) ?_
        refine TF_gy rfl rfl rfl rfl (Y_move rfl) ?_
        refine TF_gy rfl rfl rfl rfl (Y_move rfl) ?_
        refine TF_gy rfl rfl rfl rfl (Y_index_n (R := votedR) (xs := l) (b := bl) (o := ol) (congrArg (fun z ↦ some (Value.slice z l.length c)) el) rfl rfl hv) ?_
        refine TF_gy rfl rfl rfl rfl (Y_field_addr2 rfl) ?_
        refine TF_gy rfl rfl rfl rfl (Y_load_nx (xs := l) (b := bl) (o := ol) (c := c) (u := v) (v := .int .i64 v.slot) rfl (el ▸ sln (A := A) (c := c)) hv (fun _ ↦ rfl)) ?_
        refine TF_gy rfl rfl rfl rfl (Y_ne rfl rfl) ?_
        refine TF_y rfl rfl (Y_pick_f rfl rfl) ?_
        refine TF_nil ?_
        refine T_if rfl (fun h45 => ?_) (fun h45 => ?_)
        · have hge : ∀ q, ys[k]? = some q → v.slot < q := fun q hq => by rw [hu] at hq; cases hq; omega
          have hins := slot_ins hri.1 hk3.2 hge
          have hri2 : Rises (l.take (i + 1)) (ys.take k ++ [v.slot] ++ ys.drop k) := ⟨hins.1, fun x => by rw [hins.2, hri.2, hsn, List.mem_append, List.mem_singleton, Or.comm]⟩
          have hl2 : (ys.take k ++ [v.slot] ++ ys.drop k).length = ys.length + 1 := by simp only [List.length_append, List.length_cons, List.length_nil, List.length_take, List.length_drop]; omega
          refine T_rd_last [0, 0, 0, 6, 15, 0, 0, 96, 224, 480, 992, 2047, 0, 0, 12288, 32767, 65535] (by kernel_rfl) (by decide +kernel) ?_
          refine RD_pair 0 10 (by decide) ?_ ?_
          · refine RD_pair 4 10 (by decide) ?_ ?_
            · refine RD_leaf (osl (intR .i64) 3 X cx ys :: sl votedR A c l :: []) [0, 0, 0, 6, 15, 0, 0, 96, 224, 480, 1023, 2047, 0, 0, 12288, 32767, 65535] [] [(1, true), (2, true), (3, true), (5, true), (6, true), (7, true), (8, true), (9, true), (12, true), (13, true), (14, true), (0, false), (4, false), (10, false), (11, false), (15, false), (16, true)] (by decide +kernel) GivesTo.g ?_
              refine TF_y rfl rfl (Y_move rfl) ?_
              refine TF_y rfl rfl (Y_move rfl) ?_
              refine TF_y rfl rfl (Y_cut_h rfl rfl (by omega)) ?_
              refine TF_name 49 (v' := .slice X (ys.take k).length cx) rfl (by congr 1; rw [List.length_take]; omega) ?_
              refine TF_y rfl rfl (Y_move rfl) ?_
              refine TF_y rfl rfl (Y_move rfl) ?_
              refine TF_y rfl rfl (Y_index_n (R := votedR) (xs := l) (b := bl) (o := ol) (congrArg (fun z ↦ some (Value.slice z l.length c)) el) rfl rfl hv) ?_
              refine TF_y rfl rfl (Y_field_addr2 rfl) ?_
              refine TF_y rfl rfl (Y_load_nx (xs := l) (b := bl) (o := ol) (c := c) (u := v) (v := .int .i64 v.slot) rfl (el ▸ sln (A := A) (c := c)) hv (fun _ ↦ rfl)) ?_
              refine TF_y rfl rfl (Y_move rfl) ?_
              refine TF_y rfl rfl (Y_move rfl) ?_
              refine TF_y rfl rfl (Y_cut_l rfl rfl (by omega)) ?_
              refine TF_name 60 (v' := .slice (cutA X k cx (intR .i64).sz) (ys.drop k).length (cx - k)) rfl (by rw [List.length_drop]; rfl) ?_
              refine TF_anchor rfl ?_
              refine TL_build_slice rfl rfl rfl rfl rfl rfl ?_
              intro b46
              refine TL_osl (k := 0) (intR .i64) [] (Knows.const fun M => rfl) rfl (by simp) ?_
              refine TL_name 46 (v' := .slice (some ⟨b46, 0, none⟩) ([] : List Int).length 0) rfl rfl ?_
              refine TF_end GivesTo.g ?_
              refine TF_anchor rfl ?_
              refine TL_append_n (R := intR .i64) rfl rfl rfl rfl rfl ((sln (A := X) (c := cx) (xs := ys)).take k) (by simp only [List.length_nil, List.length_take]; omega) ?_
              intro A50 c50
              simp only [List.nil_append]
              refine TF_end GivesTo.g ?_
              refine TF_anchor rfl ?_
              refine TL_build_slice rfl rfl rfl rfl rfl rfl ?_
              intro b56
              refine TL_osl (k := 1) (intR .i64) [v.slot] (Knows.const fun M => ⟨[.int .i64 v.slot], [], ⟨rfl, hvi⟩, rfl, rfl⟩) rfl (by decide) ?_
              refine TL_freeze_osl ?_
              refine TL_name 56 (v' := .slice (some ⟨b56, 0, none⟩) [v.slot].length 1) rfl rfl ?_
              refine TF_end GivesTo.g ?_
              refine TF_anchor rfl ?_
              refine TL_append rfl rfl rfl rfl rfl slk (by simp only [List.length_cons, List.length_nil, List.length_take]; omega) ?_
              intro A57 c57
              refine TF_end GivesTo.g ?_
              refine TF_anchor rfl ?_
              refine TL_append_n (R := intR .i64) rfl rfl rfl rfl rfl ((sln (A := X) (c := cx) (xs := ys)).dropc hk3.1 hlx.1) (by simp only [List.length_append, List.length_cons, List.length_nil, List.length_take, List.length_drop]; omega) ?_
              intro A61 c61
              refine TF_end GivesTo.g ?_
              refine TF_y rfl rfl (Y_assign rfl) ?_
              refine TF_nil ?_
              refine inB_normal ?_
              refine thenS_normal ?_
              refine T_region_last ?_
              refine TL_y rfl rfl (Y_move rfl) ?_
              refine TL_y rfl rfl (Y_add rfl rfl (by omega)) ?_
              refine TL_name 11 (v' := .int .i64 ((i + 1 : Nat) : Int)) rfl (rfl) ?_
              refine TL_y rfl rfl (Y_assign rfl) ?_
              refine TL_nil ?_
              refine thenS_normal ?_
              exact ⟨⟨i + 1, A61, c61, ys.take k ++ [v.slot] ++ ys.drop k⟩, ⟨by simp only; omega, hri2, by simp only; omega⟩, by simp only; omega, holds_to (sub_cons rfl (sub_cons rfl (sub_cons rfl (sub_nil)))) GivesTo.g⟩
            · refine RD_leaf (osl (intR .i64) 3 X cx ys :: sl votedR A c l :: []) [0, 0, 0, 6, 2031, 0, 0, 96, 224, 480, 993, 2047, 0, 0, 12288, 32767, 65535] [] [(1, true), (2, true), (3, true), (5, true), (6, true), (7, true), (8, true), (9, true), (12, true), (13, true), (14, true), (0, false), (10, false), (4, false), (11, false), (15, false), (16, true)] (by decide +kernel) GivesTo.g ?_
              refine TF_y rfl rfl (Y_move rfl) ?_
              refine TF_y rfl rfl (Y_move rfl) ?_
              refine TF_y rfl rfl (Y_cut_h rfl rfl (by omega)) ?_
              refine TF_name 49 (v' := .slice X (ys.take k).length cx) rfl (by congr 1; rw [List.length_take]; omega) ?_
              refine TF_y rfl rfl (Y_move rfl) ?_
              refine TF_y rfl rfl (Y_move rfl) ?_
              refine TF_y rfl rfl (Y_index_n (R := votedR) (xs := l) (b := bl) (o := ol) (congrArg (fun z ↦ some (Value.slice z l.length c)) el) rfl rfl hv) ?_
              refine TF_y rfl rfl (Y_field_addr2 rfl) ?_
              refine TF_y rfl rfl (Y_load_nx (xs := l) (b := bl) (o := ol) (c := c) (u := v) (v := .int .i64 v.slot) rfl (el ▸ sln (A := A) (c := c)) hv (fun _ ↦ rfl)) ?_
              refine TF_y rfl rfl (Y_move rfl) ?_
              refine TF_y rfl rfl (Y_move rfl) ?_
              refine TF_y rfl rfl (Y_cut_l rfl rfl (by omega)) ?_
              refine TF_name 60 (v' := .slice (cutA X k cx (intR .i64).sz) (ys.drop k).length (cx - k)) rfl (by rw [List.length_drop]; rfl) ?_
              refine TF_anchor rfl ?_
              refine TL_build_slice rfl rfl rfl rfl rfl rfl ?_
              intro b46
              refine TL_osl (k := 0) (intR .i64) [] (Knows.const fun M => rfl) rfl (by simp) ?_
              refine TL_name 46 (v' := .slice (some ⟨b46, 0, none⟩) ([] : List Int).length 0) rfl rfl ?_
              refine TF_end GivesTo.g ?_
              refine TF_anchor rfl ?_
              refine TL_build_slice rfl rfl rfl rfl rfl rfl ?_
              intro b56
              refine TL_osl (k := 1) (intR .i64) [v.slot] (Knows.const fun M => ⟨[.int .i64 v.slot], [], ⟨rfl, hvi⟩, rfl, rfl⟩) rfl (by decide) ?_
              refine TL_freeze_osl ?_
              refine TL_name 56 (v' := .slice (some ⟨b56, 0, none⟩) [v.slot].length 1) rfl rfl ?_
              refine TF_end GivesTo.g ?_
              refine TF_anchor rfl ?_
              refine TL_append_n (R := intR .i64) rfl rfl rfl rfl rfl ((sln (A := X) (c := cx) (xs := ys)).take k) (by simp only [List.length_nil, List.length_take]; omega) ?_
              intro A50 c50
              simp only [List.nil_append]
              refine TF_end GivesTo.g ?_
              refine TF_anchor rfl ?_
              refine TL_append rfl rfl rfl rfl rfl slk (by simp only [List.length_cons, List.length_nil, List.length_take]; omega) ?_
              intro A57 c57
              refine TF_end GivesTo.g ?_
              refine TF_anchor rfl ?_
              refine TL_append_n (R := intR .i64) rfl rfl rfl rfl rfl ((sln (A := X) (c := cx) (xs := ys)).dropc hk3.1 hlx.1) (by simp only [List.length_append, List.length_cons, List.length_nil, List.length_take, List.length_drop]; omega) ?_
              intro A61 c61
              refine TF_end GivesTo.g ?_
              refine TF_y rfl rfl (Y_assign rfl) ?_
              refine TF_nil ?_
              refine inB_normal ?_
              refine thenS_normal ?_
              refine T_region_last ?_
              refine TL_y rfl rfl (Y_move rfl) ?_
              refine TL_y rfl rfl (Y_add rfl rfl (by omega)) ?_
              refine TL_name 11 (v' := .int .i64 ((i + 1 : Nat) : Int)) rfl (rfl) ?_
              refine TL_y rfl rfl (Y_assign rfl) ?_
              refine TL_nil ?_
              refine thenS_normal ?_
              exact ⟨⟨i + 1, A61, c61, ys.take k ++ [v.slot] ++ ys.drop k⟩, ⟨by simp only; omega, hri2, by simp only; omega⟩, by simp only; omega, holds_to (sub_cons rfl (sub_cons rfl (sub_cons rfl (sub_nil)))) GivesTo.g⟩
          · refine RD_leaf (osl (intR .i64) 3 X cx ys :: sl votedR A c l :: []) [2016, 0, 0, 6, 2031, 0, 0, 96, 224, 480, 992, 2047, 0, 0, 12288, 32767, 65535] [] [(1, true), (2, true), (3, true), (5, true), (6, true), (7, true), (8, true), (9, true), (12, true), (13, true), (14, true), (10, false), (0, false), (4, false), (11, false), (15, false), (16, true)] (by decide +kernel) GivesTo.g ?_
            refine TF_y rfl rfl (Y_move rfl) ?_
            refine TF_y rfl rfl (Y_move rfl) ?_
            refine TF_y rfl rfl (Y_cut_h rfl rfl (by omega)) ?_
            refine TF_name 49 (v' := .slice X (ys.take k).length cx) rfl (by congr 1; rw [List.length_take]; omega) ?_
            refine TF_y rfl rfl (Y_move rfl) ?_
            refine TF_y rfl rfl (Y_move rfl) ?_
            refine TF_y rfl rfl (Y_index_n (R := votedR) (xs := l) (b := bl) (o := ol) (congrArg (fun z ↦ some (Value.slice z l.length c)) el) rfl rfl hv) ?_
            refine TF_y rfl rfl (Y_field_addr2 rfl) ?_
            refine TF_y rfl rfl (Y_load_nx (xs := l) (b := bl) (o := ol) (c := c) (u := v) (v := .int .i64 v.slot) rfl (el ▸ sln (A := A) (c := c)) hv (fun _ ↦ rfl)) ?_
            refine TF_y rfl rfl (Y_move rfl) ?_
            refine TF_y rfl rfl (Y_move rfl) ?_
            refine TF_y rfl rfl (Y_cut_l rfl rfl (by omega)) ?_
            refine TF_name 60 (v' := .slice (cutA X k cx (intR .i64).sz) (ys.drop k).length (cx - k)) rfl (by rw [List.length_drop]; rfl) ?_
            refine TF_anchor rfl ?_
            refine TL_build_slice rfl rfl rfl rfl rfl rfl ?_
            intro b56
            refine TL_osl (k := 1) (intR .i64) [v.slot] (Knows.const fun M => ⟨[.int .i64 v.slot], [], ⟨rfl, hvi⟩, rfl, rfl⟩) rfl (by decide) ?_
            refine TL_freeze_osl ?_
            refine TL_name 56 (v' := .slice (some ⟨b56, 0, none⟩) [v.slot].length 1) rfl rfl ?_
            refine TF_end GivesTo.g ?_
            refine TF_anchor rfl ?_
            refine TL_build_slice rfl rfl rfl rfl rfl rfl ?_
            intro b46
            refine TL_osl (k := 0) (intR .i64) [] (Knows.const fun M => rfl) rfl (by simp) ?_
            refine TL_name 46 (v' := .slice (some ⟨b46, 0, none⟩) ([] : List Int).length 0) rfl rfl ?_
            refine TF_end GivesTo.g ?_
            refine TF_anchor rfl ?_
            refine TL_append_n (R := intR .i64) rfl rfl rfl rfl rfl ((sln (A := X) (c := cx) (xs := ys)).take k) (by simp only [List.length_nil, List.length_take]; omega) ?_
            intro A50 c50
            simp only [List.nil_append]
            refine TF_end GivesTo.g ?_
            refine TF_anchor rfl ?_
            refine TL_append rfl rfl rfl rfl rfl slk (by simp only [List.length_cons, List.length_nil, List.length_take]; omega) ?_
            intro A57 c57
            refine TF_end GivesTo.g ?_
            refine TF_anchor rfl ?_
            refine TL_append_n (R := intR .i64) rfl rfl rfl rfl rfl ((sln (A := X) (c := cx) (xs := ys)).dropc hk3.1 hlx.1) (by simp only [List.length_append, List.length_cons, List.length_nil, List.length_take, List.length_drop]; omega) ?_
            intro A61 c61
            refine TF_end GivesTo.g ?_
            refine TF_y rfl rfl (Y_assign rfl) ?_
            refine TF_nil ?_
            refine inB_normal ?_
            refine thenS_normal ?_
            refine T_region_last ?_
            refine TL_y rfl rfl (Y_move rfl) ?_
            refine TL_y rfl rfl (Y_add rfl rfl (by omega)) ?_
            refine TL_name 11 (v' := .int .i64 ((i + 1 : Nat) : Int)) rfl (rfl) ?_
            refine TL_y rfl rfl (Y_assign rfl) ?_
            refine TL_nil ?_
            refine thenS_normal ?_
            exact ⟨⟨i + 1, A61, c61, ys.take k ++ [v.slot] ++ ys.drop k⟩, ⟨by simp only; omega, hri2, by simp only; omega⟩, by simp only; omega, holds_to (sub_cons rfl (sub_cons rfl (sub_cons rfl (sub_nil)))) GivesTo.g⟩
        · refine T_skip ?_
          refine inB_normal ?_
          refine thenS_normal ?_
          refine T_region_last ?_
          refine TL_y rfl rfl (Y_move rfl) ?_
          refine TL_y rfl rfl (Y_add rfl rfl (by omega)) ?_
          refine TL_name 11 (v' := .int .i64 ((i + 1 : Nat) : Int)) rfl (rfl) ?_
          refine TL_y rfl rfl (Y_assign rfl) ?_
          refine TL_nil ?_
          refine thenS_normal ?_
          exact ⟨⟨i + 1, X, cx, ys⟩, ⟨by simp only; omega, ⟨hri.1, fun x => by rw [hri.2, hsn, List.mem_append, List.mem_singleton]; exact ⟨.inl, fun h => h.elim id fun e => by rw [e]; exact (hri.2 _).1 (by have : v.slot = u := (by omega); rw [this]; exact List.mem_of_getElem? hu)⟩⟩, by simp only; omega⟩, by simp only; omega, holds_to (sub_cons rfl (sub_cons rfl (sub_cons rfl (sub_nil)))) GivesTo.g⟩
    · refine T_region_draw _ [0, 0, 2, 7, 15, 31, 31, 127, 255, 31, 31, 1567, 3615, 7711, 16383, 32767] [] [(0, true), (1, true), (2, true), (3, true), (4, true), (5, true), (6, true), (7, true), (8, true), (9, true), (10, true), (11, true), (12, true), (13, true), (14, true), (15, true)] (by kernel_rfl) (by decide +kernel) (Gives.refl _) ?_
      refine TF_y rfl rfl (Y_move rfl) ?_
      refine TF_y rfl rfl (Y_move rfl) ?_
      refine TF_y rfl rfl (Y_len rfl) ?_
      refine TF_y rfl rfl (Y_lt rfl rfl) ?_
      refine TF_name 15 (v' := .bool false) rfl (congrArg Value.bool (decide_eq_false (by omega))) ?_
      refine TF_y rfl rfl (Y_move rfl) ?_
      refine TF_gskip rfl rfl rfl rfl rfl ?_
      refine TF_gskip rfl rfl rfl rfl rfl ?_
      refine TF_gskip rfl rfl rfl rfl rfl ?_
      refine TF_gskip rfl rfl rfl rfl rfl ?_
      refine TF_gskip rfl rfl rfl rfl rfl ?_
      refine TF_gskip rfl rfl rfl rfl rfl ?_
      refine TF_gskip rfl rfl rfl rfl rfl ?_
      refine TF_gskip rfl rfl rfl rfl rfl ?_
      refine TF_gskip rfl rfl rfl rfl rfl ?_
      refine TF_gskip rfl rfl rfl rfl rfl ?_
      refine TF_y rfl rfl (Y_pick_f rfl rfl) ?_
      refine TF_nil ?_
      refine T_cond_false rfl ?_
      refine T_exit ?_
      refine thenS_exit ?_
      refine thenS_exit ?_
      refine inB_hit ?_
      refine thenS_normal ?_
      refine T_region_draw _ [0, 0, 2, 7, 15, 31, 31, 127, 255, 31, 31, 1567, 3615, 7711, 16383, 32767] [] [(0, true), (1, true), (2, true), (3, true), (4, true), (5, true), (6, true), (7, true), (8, true), (9, true), (10, true), (11, true), (12, true), (13, true), (14, true), (15, true)] (by kernel_rfl) (by decide +kernel) (Gives.refl _) ?_
      refine TF_y rfl rfl (Y_move rfl) ?_
      refine TF_y rfl rfl (Y_move rfl) ?_
      refine TF_y rfl rfl (Y_len rfl) ?_
      refine TF_y rfl rfl (Y_eq rfl rfl) ?_
      refine TF_name 33 (v' := .bool true) rfl (congrArg Value.bool (decide_eq_true (by omega))) ?_
      refine TF_y rfl rfl (Y_move rfl) ?_
      refine TF_gskip rfl rfl rfl rfl rfl ?_
      refine TF_gskip rfl rfl rfl rfl rfl ?_
      refine TF_gskip rfl rfl rfl rfl rfl ?_
      refine TF_gskip rfl rfl rfl rfl rfl ?_
      refine TF_gskip rfl rfl rfl rfl rfl ?_
      refine TF_gskip rfl rfl rfl rfl rfl ?_
      refine TF_gskip rfl rfl rfl rfl rfl ?_
      refine TF_gskip rfl rfl rfl rfl rfl ?_
      refine TF_gskip rfl rfl rfl rfl rfl ?_
      refine TF_gskip rfl rfl rfl rfl rfl ?_
      refine TF_y rfl rfl (Y_pick_t rfl rfl) ?_
      refine TF_nil ?_
      refine T_cond_true rfl ?_
      have hge : ∀ q, ys[k]? = some q → v.slot < q := fun q hq => by have := (List.getElem?_eq_some_iff.1 hq).1; omega
      have hins := slot_ins hri.1 hk3.2 hge
      have hri2 : Rises (l.take (i + 1)) (ys.take k ++ [v.slot] ++ ys.drop k) := ⟨hins.1, fun x => by rw [hins.2, hri.2, hsn, List.mem_append, List.mem_singleton, Or.comm]⟩
      have hl2 : (ys.take k ++ [v.slot] ++ ys.drop k).length = ys.length + 1 := by simp only [List.length_append, List.length_cons, List.length_nil, List.length_take, List.length_drop]; omega
      refine T_rd_last [0, 0, 0, 6, 15, 0, 0, 96, 224, 480, 992, 2047, 0, 0, 12288, 32767, 65535] (by kernel_rfl) (by decide +kernel) ?_
      refine RD_pair 0 10 (by decide) ?_ ?_
      · refine RD_pair 4 10 (by decide) ?_ ?_
        · refine RD_leaf (osl (intR .i64) 3 X cx ys :: sl votedR A c l :: []) [0, 0, 0, 6, 15, 0, 0, 96, 224, 480, 1023, 2047, 0, 0, 12288, 32767, 65535] [] [(1, true), (2, true), (3, true), (5, true), (6, true), (7, true), (8, true), (9, true), (12, true), (13, true), (14, true), (0, false), (4, false), (10, false), (11, false), (15, false), (16, true)] (by decide +kernel) GivesTo.g ?_
          refine TF_y rfl rfl (Y_move rfl) ?_
          refine TF_y rfl rfl (Y_move rfl) ?_
          refine TF_y rfl rfl (Y_cut_h rfl rfl (by omega)) ?_
          refine TF_name 49 (v' := .slice X (ys.take k).length cx) rfl (by congr 1; rw [List.length_take]; omega) ?_
          refine TF_y rfl rfl (Y_move rfl) ?_
          refine TF_y rfl rfl (Y_move rfl) ?_
          refine TF_y rfl rfl (Y_index_n (R := votedR) (xs := l) (b := bl) (o := ol) (congrArg (fun z ↦ some (Value.slice z l.length c)) el) rfl rfl hv) ?_
          refine TF_y rfl rfl (Y_field_addr2 rfl) ?_
          refine TF_y rfl rfl (Y_load_nx (xs := l) (b := bl) (o := ol) (c := c) (u := v) (v := .int .i64 v.slot) rfl (el ▸ sln (A := A) (c := c)) hv (fun _ ↦ rfl)) ?_
          refine TF_y rfl rfl (Y_move rfl) ?_
          refine TF_y rfl rfl (Y_move rfl) ?_
          refine TF_y rfl rfl (Y_cut_l rfl rfl (by omega)) ?_
          refine TF_name 60 (v' := .slice (cutA X k cx (intR .i64).sz) (ys.drop k).length (cx - k)) rfl (by rw [List.length_drop]; rfl) ?_
          refine TF_anchor rfl ?_
          refine TL_build_slice rfl rfl rfl rfl rfl rfl ?_
          intro b46
          refine TL_osl (k := 0) (intR .i64) [] (Knows.const fun M => rfl) rfl (by simp) ?_
          refine TL_name 46 (v' := .slice (some ⟨b46, 0, none⟩) ([] : List Int).length 0) rfl rfl ?_
          refine TF_end GivesTo.g ?_
          refine TF_anchor rfl ?_
          refine TL_append_n (R := intR .i64) rfl rfl rfl rfl rfl ((sln (A := X) (c := cx) (xs := ys)).take k) (by simp only [List.length_nil, List.length_take]; omega) ?_
          intro A50 c50
          simp only [List.nil_append]
          refine TF_end GivesTo.g ?_
          refine TF_anchor rfl ?_
          refine TL_build_slice rfl rfl rfl rfl rfl rfl ?_
          intro b56
          refine TL_osl (k := 1) (intR .i64) [v.slot] (Knows.const fun M => ⟨[.int .i64 v.slot], [], ⟨rfl, hvi⟩, rfl, rfl⟩) rfl (by decide) ?_
          refine TL_freeze_osl ?_
          refine TL_name 56 (v' := .slice (some ⟨b56, 0, none⟩) [v.slot].length 1) rfl rfl ?_
          refine TF_end GivesTo.g ?_
          refine TF_anchor rfl ?_
          refine TL_append rfl rfl rfl rfl rfl slk (by simp only [List.length_cons, List.length_nil, List.length_take]; omega) ?_
          intro A57 c57
          refine TF_end GivesTo.g ?_
          refine TF_anchor rfl ?_
          refine TL_append_n (R := intR .i64) rfl rfl rfl rfl rfl ((sln (A := X) (c := cx) (xs := ys)).dropc hk3.1 hlx.1) (by simp only [List.length_append, List.length_cons, List.length_nil, List.length_take, List.length_drop]; omega) ?_
          intro A61 c61
          refine TF_end GivesTo.g ?_
          refine TF_y rfl rfl (Y_assign rfl) ?_
          refine TF_nil ?_
          refine inB_normal ?_
          refine thenS_normal ?_
          refine T_region_last ?_
          refine TL_y rfl rfl (Y_move rfl) ?_
          refine TL_y rfl rfl (Y_add rfl rfl (by omega)) ?_
          refine TL_name 11 (v' := .int .i64 ((i + 1 : Nat) : Int)) rfl (rfl) ?_
          refine TL_y rfl rfl (Y_assign rfl) ?_
          refine TL_nil ?_
          refine thenS_normal ?_
          exact ⟨⟨i + 1, A61, c61, ys.take k ++ [v.slot] ++ ys.drop k⟩, ⟨by simp only; omega, hri2, by simp only; omega⟩, by simp only; omega, holds_to (sub_cons rfl (sub_cons rfl (sub_cons rfl (sub_nil)))) GivesTo.g⟩
        · refine RD_leaf (osl (intR .i64) 3 X cx ys :: sl votedR A c l :: []) [0, 0, 0, 6, 2031, 0, 0, 96, 224, 480, 993, 2047, 0, 0, 12288, 32767, 65535] [] [(1, true), (2, true), (3, true), (5, true), (6, true), (7, true), (8, true), (9, true), (12, true), (13, true), (14, true), (0, false), (10, false), (4, false), (11, false), (15, false), (16, true)] (by decide +kernel) GivesTo.g ?_
          refine TF_y rfl rfl (Y_move rfl) ?_
          refine TF_y rfl rfl (Y_move rfl) ?_
          refine TF_y rfl rfl (Y_cut_h rfl rfl (by omega)) ?_
          refine TF_name 49 (v' := .slice X (ys.take k).length cx) rfl (by congr 1; rw [List.length_take]; omega) ?_
          refine TF_y rfl rfl (Y_move rfl) ?_
          refine TF_y rfl rfl (Y_move rfl) ?_
          refine TF_y rfl rfl (Y_index_n (R := votedR) (xs := l) (b := bl) (o := ol) (congrArg (fun z ↦ some (Value.slice z l.length c)) el) rfl rfl hv) ?_
          refine TF_y rfl rfl (Y_field_addr2 rfl) ?_
          refine TF_y rfl rfl (Y_load_nx (xs := l) (b := bl) (o := ol) (c := c) (u := v) (v := .int .i64 v.slot) rfl (el ▸ sln (A := A) (c := c)) hv (fun _ ↦ rfl)) ?_
          refine TF_y rfl rfl (Y_move rfl) ?_
          refine TF_y rfl rfl (Y_move rfl) ?_
          refine TF_y rfl rfl (Y_cut_l rfl rfl (by omega)) ?_
          refine TF_name 60 (v' := .slice (cutA X k cx (intR .i64).sz) (ys.drop k).length (cx - k)) rfl (by rw [List.length_drop]; rfl) ?_
          refine TF_anchor rfl ?_
          refine TL_build_slice rfl rfl rfl rfl rfl rfl ?_
          intro b46
          refine TL_osl (k := 0) (intR .i64) [] (Knows.const fun M => rfl) rfl (by simp) ?_
          refine TL_name 46 (v' := .slice (some ⟨b46, 0, none⟩) ([] : List Int).length 0) rfl rfl ?_
          refine TF_end GivesTo.g ?_
          refine TF_anchor rfl ?_
          refine TL_build_slice rfl rfl rfl rfl rfl rfl ?_
          intro b56
          refine TL_osl (k := 1) (intR .i64) [v.slot] (Knows.const fun M => ⟨[.int .i64 v.slot], [], ⟨rfl, hvi⟩, rfl, rfl⟩) rfl (by decide) ?_
          refine TL_freeze_osl ?_
          refine TL_name 56 (v' := .slice (some ⟨b56, 0, none⟩) [v.slot].length 1) rfl rfl ?_
          refine TF_end GivesTo.g ?_
          refine TF_anchor rfl ?_
          refine TL_append_n (R := intR .i64) rfl rfl rfl rfl rfl ((sln (A := X) (c := cx) (xs := ys)).take k) (by simp only [List.length_nil, List.length_take]; omega) ?_
          intro A50 c50
          simp only [List.nil_append]
          refine TF_end GivesTo.g ?_
          refine TF_anchor rfl ?_
          refine TL_append rfl rfl rfl rfl rfl slk (by simp only [List.length_cons, List.length_nil, List.length_take]; omega) ?_
          intro A57 c57
          refine TF_end GivesTo.g ?_
          refine TF_anchor rfl ?_
          refine TL_append_n (R := intR .i64) rfl rfl rfl rfl rfl ((sln (A := X) (c := cx) (xs := ys)).dropc hk3.1 hlx.1) (by simp only [List.length_append, List.length_cons, List.length_nil, List.length_take, List.length_drop]; omega) ?_
          intro A61 c61
          refine TF_end GivesTo.g ?_
          refine TF_y rfl rfl (Y_assign rfl) ?_
          refine TF_nil ?_
          refine inB_normal ?_
          refine thenS_normal ?_
          refine T_region_last ?_
          refine TL_y rfl rfl (Y_move rfl) ?_
          refine TL_y rfl rfl (Y_add rfl rfl (by omega)) ?_
          refine TL_name 11 (v' := .int .i64 ((i + 1 : Nat) : Int)) rfl (rfl) ?_
          refine TL_y rfl rfl (Y_assign rfl) ?_
          refine TL_nil ?_
          refine thenS_normal ?_
          exact ⟨⟨i + 1, A61, c61, ys.take k ++ [v.slot] ++ ys.drop k⟩, ⟨by simp only; omega, hri2, by simp only; omega⟩, by simp only; omega, holds_to (sub_cons rfl (sub_cons rfl (sub_cons rfl (sub_nil)))) GivesTo.g⟩
      · refine RD_leaf (osl (intR .i64) 3 X cx ys :: sl votedR A c l :: []) [2016, 0, 0, 6, 2031, 0, 0, 96, 224, 480, 992, 2047, 0, 0, 12288, 32767, 65535] [] [(1, true), (2, true), (3, true), (5, true), (6, true), (7, true), (8, true), (9, true), (12, true), (13, true), (14, true), (10, false), (0, false), (4, false), (11, false), (15, false), (16, true)] (by decide +kernel) GivesTo.g ?_
        refine TF_y rfl rfl (Y_move rfl) ?_
        refine TF_y rfl rfl (Y_move rfl) ?_
        refine TF_y rfl rfl (Y_cut_h rfl rfl (by omega)) ?_
        refine TF_name 49 (v' := .slice X (ys.take k).length cx) rfl (by congr 1; rw [List.length_take]; omega) ?_
        refine TF_y rfl rfl (Y_move rfl) ?_
        refine TF_y rfl rfl (Y_move rfl) ?_
        refine TF_y rfl rfl (Y_index_n (R := votedR) (xs := l) (b := bl) (o := ol) (congrArg (fun z ↦ some (Value.slice z l.length c)) el) rfl rfl hv) ?_
        refine TF_y rfl rfl (Y_field_addr2 rfl) ?_
        refine TF_y rfl rfl (Y_load_nx (xs := l) (b := bl) (o := ol) (c := c) (u := v) (v := .int .i64 v.slot) rfl (el ▸ sln (A := A) (c := c)) hv (fun _ ↦ rfl)) ?_
        refine TF_y rfl rfl (Y_move rfl) ?_
        refine TF_y rfl rfl (Y_move rfl) ?_
        refine TF_y rfl rfl (Y_cut_l rfl rfl (by omega)) ?_
        refine TF_name 60 (v' := .slice (cutA X k cx (intR .i64).sz) (ys.drop k).length (cx - k)) rfl (by rw [List.length_drop]; rfl) ?_
        refine TF_anchor rfl ?_
        refine TL_build_slice rfl rfl rfl rfl rfl rfl ?_
        intro b56
        refine TL_osl (k := 1) (intR .i64) [v.slot] (Knows.const fun M => ⟨[.int .i64 v.slot], [], ⟨rfl, hvi⟩, rfl, rfl⟩) rfl (by decide) ?_
        refine TL_freeze_osl ?_
        refine TL_name 56 (v' := .slice (some ⟨b56, 0, none⟩) [v.slot].length 1) rfl rfl ?_
        refine TF_end GivesTo.g ?_
        refine TF_anchor rfl ?_
        refine TL_build_slice rfl rfl rfl rfl rfl rfl ?_
        intro b46
        refine TL_osl (k := 0) (intR .i64) [] (Knows.const fun M => rfl) rfl (by simp) ?_
        refine TL_name 46 (v' := .slice (some ⟨b46, 0, none⟩) ([] : List Int).length 0) rfl rfl ?_
        refine TF_end GivesTo.g ?_
        refine TF_anchor rfl ?_
        refine TL_append_n (R := intR .i64) rfl rfl rfl rfl rfl ((sln (A := X) (c := cx) (xs := ys)).take k) (by simp only [List.length_nil, List.length_take]; omega) ?_
        intro A50 c50
        simp only [List.nil_append]
        refine TF_end GivesTo.g ?_
        refine TF_anchor rfl ?_
        refine TL_append rfl rfl rfl rfl rfl slk (by simp only [List.length_cons, List.length_nil, List.length_take]; omega) ?_
        intro A57 c57
        refine TF_end GivesTo.g ?_
        refine TF_anchor rfl ?_
        refine TL_append_n (R := intR .i64) rfl rfl rfl rfl rfl ((sln (A := X) (c := cx) (xs := ys)).dropc hk3.1 hlx.1) (by simp only [List.length_append, List.length_cons, List.length_nil, List.length_take, List.length_drop]; omega) ?_
        intro A61 c61
        refine TF_end GivesTo.g ?_
        refine TF_y rfl rfl (Y_assign rfl) ?_
        refine TF_nil ?_
        refine inB_normal ?_
        refine thenS_normal ?_
        refine T_region_last ?_
        refine TL_y rfl rfl (Y_move rfl) ?_
        refine TL_y rfl rfl (Y_add rfl rfl (by omega)) ?_
        refine TL_name 11 (v' := .int .i64 ((i + 1 : Nat) : Int)) rfl (rfl) ?_
        refine TL_y rfl rfl (Y_assign rfl) ?_
        refine TL_nil ?_
        refine thenS_normal ?_
        exact ⟨⟨i + 1, A61, c61, ys.take k ++ [v.slot] ++ ys.drop k⟩, ⟨by simp only; omega, hri2, by simp only; omega⟩, by simp only; omega, holds_to (sub_cons rfl (sub_cons rfl (sub_cons rfl (sub_nil)))) GivesTo.g⟩
  · refine T_exit ?_
    refine thenS_exit ?_
    refine thenS_exit ?_
    refine inB_hit ?_
    refine thenS_normal ?_
    rw [List.take_of_length_le (show l.length ≤ i by omega)] at hri
    refine T_region ?_
    refine TL_y rfl rfl (Y_move rfl) ?_
    refine TL_y rfl rfl (Y_assign rfl) ?_
    refine TL_nil ?_
    refine T_ret ?_
    exact RetG_1 (.inl rfl) rfl (ResV.tmp rfl) GivesTo.g (⟨X, cx, ys, rfl, rfl, hri⟩)
end Go.SL
