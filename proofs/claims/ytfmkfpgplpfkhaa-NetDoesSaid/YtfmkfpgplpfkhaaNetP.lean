/- Net: the document's net: At, To, Fork. -/
import Derived.Test.YtfmkfpgplpfkhaaNetO2
import Derived.Test.YtfmkfpgplpfkhaaSlV
set_option linter.unusedVariables false
set_option linter.unusedSimpArgs false
namespace Go.SL
open Go Go.Proofs
theorem idx_neg {p n : Int} (hn : 0 < n) (h : p.tmod n < 0) : p.tmod n + n = p % n := by
  have h1 := tm_bound p hn
  have h2 := at_idx p hn
  rw [Int.tmod_eq_of_lt (by omega) (by omega)] at h2
  exact h2
theorem idx_pos {p n : Int} (hn : 0 < n) (h : ¬ p.tmod n < 0) : p.tmod n = p % n := by
  have h1 := tm_bound p hn
  have h2 := at_idx p hn
  rw [Int.tmod_eq_emod_of_nonneg (by omega), Int.add_emod_right, Int.emod_eq_of_lt (by omega) (by omega)] at h2
  exact h2
theorem refAtN_spec {L : List HP} {b : Nat} {s : NS} (place : Int) (hp : intIn .i64 place) (hlen : s.L.length ≤ 65536) : Fn Try.prog 19 #[.pointer (some ⟨b, 0, none⟩), .int .i64 place] (rn b s :: L) (fun v L' => v = .tuple #[.int .i64 (atS s place).1, .bool (atS s place).2] ∧ L' = rn b s :: L) := by
  have hp := i64In hp
  refine Fn_enter Try.func19 rfl rfl rfl rfl ?_
  refine T_rn fun A c => ?_
  refine T_region ?_
  refine TL_y rfl rfl (Y_assign rfl) ?_
  refine TL_y rfl rfl (Y_assign rfl) ?_
  refine TL_nil ?_
  refine T_seq ?_
  refine T_region ?_
  refine TL_y rfl rfl (Y_move rfl) ?_
  refine TL_y rfl rfl (Y_nil_check rfl) ?_
  refine TL_y rfl rfl (Y_field_addr rfl) ?_
  refine TL_y rfl rfl (Y_load rfl rfl) ?_
  refine TL_y rfl rfl (Y_len rfl) ?_
  refine TL_y rfl rfl (Y_eq rfl rfl) ?_
  refine TL_nil ?_
  refine T_if rfl (fun h12 => ?_) (fun h12 => ?_)
  · refine T_region ?_
    refine TL_y rfl rfl (Y_assign rfl) ?_
    refine TL_y rfl rfl (Y_assign rfl) ?_
    refine TL_nil ?_
    refine T_ret ?_
    refine thenS_ret ?_
    have he : s.L = [] := List.eq_nil_of_length_eq_zero (by omega)
    refine RetQ.gives (rn_close (A := A) (c := c) b s) ?_
    exact RetG_2 (.inl rfl) rfl (ResV.tmp rfl) (ResV.tmp rfl) GivesTo.g (⟨by simp [atS, he], rfl⟩)
  · refine T_skip ?_
    refine thenS_normal ?_
    have hpos : (0 : Int) < (s.L.length : Int) := by omega
    have htm := tm_bound place hpos
    have hid := at_idx place hpos
    have e1 := Int.emod_nonneg place (by omega : (s.L.length : Int) ≠ 0)
    have e2 := Int.emod_lt_of_pos place hpos
    refine T_region ?_
    refine TL_y rfl rfl (Y_move rfl) ?_
    refine TL_y rfl rfl (Y_move rfl) ?_
    refine TL_y rfl rfl (Y_nil_check rfl) ?_
    refine TL_y rfl rfl (Y_field_addr rfl) ?_
    refine TL_y rfl rfl (Y_load rfl rfl) ?_
    refine TL_y rfl rfl (Y_len rfl) ?_
    refine TL_y rfl rfl (Y_rem rfl rfl (by omega)) ?_
    refine TL_y rfl rfl (Y_assign rfl) ?_
    refine TL_nil ?_
    refine T_seq ?_
    refine T_region ?_
    refine TL_y rfl rfl (Y_move rfl) ?_
    refine TL_y rfl rfl (Y_lt rfl rfl) ?_
    refine TL_nil ?_
    refine T_if rfl (fun h21 => ?_) (fun h21 => ?_)
    · have hq1 := idx_neg hpos h21
      refine T_region_last ?_
      refine TL_y rfl rfl (Y_move rfl) ?_
      refine TL_y rfl rfl (Y_move rfl) ?_
      refine TL_y rfl rfl (Y_nil_check rfl) ?_
      refine TL_y rfl rfl (Y_field_addr rfl) ?_
      refine TL_y rfl rfl (Y_load rfl rfl) ?_
      refine TL_y rfl rfl (Y_len rfl) ?_
      refine TL_y rfl rfl (Y_add rfl rfl (by omega)) ?_
      refine TL_name 28 (v' := .int .i64 (((place % (s.L.length : Int)).toNat : Nat) : Int)) rfl (by rw [hq1]; congr 1; omega) ?_
      refine TL_y rfl rfl (Y_assign rfl) ?_
      refine TL_nil ?_
      refine thenS_normal ?_
      obtain ⟨p, hq⟩ : ∃ p, s.L[(place % (s.L.length : Int)).toNat]? = some p := ⟨_, List.getElem?_eq_getElem (by omega)⟩
      refine T_addr_n (sln (A := A) (c := c)) hq fun bq oq eq => ?_
      subst eq
      refine T_region ?_
      refine TL_y rfl rfl (Y_move rfl) ?_
      refine TL_y rfl rfl (Y_nil_check rfl) ?_
      refine TL_y rfl rfl (Y_field_addr rfl) ?_
      refine TL_y rfl rfl (Y_load rfl rfl) ?_
      refine TL_y rfl rfl (Y_move rfl) ?_
      refine TL_y rfl rfl (Y_index_n (R := packR) (xs := s.L) rfl rfl rfl hq) ?_
      refine TL_y rfl rfl (Y_field_addr2 rfl) ?_
      refine TL_y rfl rfl (Y_load_n (R := packR) (c := c) (xs := s.L) (q := 0) rfl sln hq rfl) ?_
      refine TL_y rfl rfl (Y_assign rfl) ?_
      refine TL_y rfl rfl (Y_assign rfl) ?_
      refine TL_nil ?_
      refine T_ret ?_
      refine RetQ.gives (rn_close (A := some ⟨bq, oq, none⟩) (c := c) b s) ?_
      exact RetG_2 (.inl rfl) rfl (ResV.tmp rfl) (ResV.tmp rfl) GivesTo.g (⟨by simp [atS, hq], rfl⟩)
    · have hq1 := idx_pos hpos h21
      refine T_name 6 (v' := .int .i64 (((place % (s.L.length : Int)).toNat : Nat) : Int)) rfl (by rw [hq1]; congr 1; omega) ?_
      refine T_skip ?_
      refine thenS_normal ?_
      obtain ⟨p, hq⟩ : ∃ p, s.L[(place % (s.L.length : Int)).toNat]? = some p := ⟨_, List.getElem?_eq_getElem (by omega)⟩
      refine T_addr_n (sln (A := A) (c := c)) hq fun bq oq eq => ?_
      subst eq
      refine T_region ?_
      refine TL_y rfl rfl (Y_move rfl) ?_
      refine TL_y rfl rfl (Y_nil_check rfl) ?_
      refine TL_y rfl rfl (Y_field_addr rfl) ?_
      refine TL_y rfl rfl (Y_load rfl rfl) ?_
      refine TL_y rfl rfl (Y_move rfl) ?_
      refine TL_y rfl rfl (Y_index_n (R := packR) (xs := s.L) rfl rfl rfl hq) ?_
      refine TL_y rfl rfl (Y_field_addr2 rfl) ?_
      refine TL_y rfl rfl (Y_load_n (R := packR) (c := c) (xs := s.L) (q := 0) rfl sln hq rfl) ?_
      refine TL_y rfl rfl (Y_assign rfl) ?_
      refine TL_y rfl rfl (Y_assign rfl) ?_
      refine TL_nil ?_
      refine T_ret ?_
      refine RetQ.gives (rn_close (A := some ⟨bq, oq, none⟩) (c := c) b s) ?_
      exact RetG_2 (.inl rfl) rfl (ResV.tmp rfl) (ResV.tmp rfl) GivesTo.g (⟨by simp [atS, hq], rfl⟩)
def toL (l : List PackD) (k : Int) : List PackD := l.filter fun p => decide (p.to_ = k)
structure TOg where
  i : Nat
  A : Option Addr
  c : Nat
theorem refToN_spec {L : List HP} {b : Nat} {s : NS} (k : Int) (hni : NI s) : Fn Try.prog 46 #[.pointer (some ⟨b, 0, none⟩), .int .i64 k] (rn b s :: L) (fun v L' => ∃ A c, v = .slice A (toL s.L k).length c ∧ L' = osl packR 36 A c (toL s.L k) :: rn b s :: L) := by
  have hlen := hni.len
  refine Fn_enter Try.func46 rfl rfl rfl rfl ?_
  refine T_rn fun A c => ?_
  refine T_region ?_
  refine TL_y rfl rfl (Y_assign rfl) ?_
  refine TL_nil ?_
  refine T_region ?_
  refine TL_y rfl rfl (Y_assign rfl) ?_
  refine TL_nil ?_
  refine T_seq ?_
  refine T_gives (show Gives _ (osl packR 36 none 0 (toL (s.L.take 0) k) :: _) from osl_nil packR 36 none _) ?_
  refine T_region ?_
  refine TL_y rfl rfl (Y_assign rfl) ?_
  refine TL_nil ?_
  refine T_block ?_
  refine T_loopK (σ := TOg) [0, 1] (fun g => g.i ≤ s.L.length) (fun g kv => (5, .slice g.A (toL (s.L.take g.i) k).length g.c) :: (6, .int .i64 (g.i : Int)) :: kv) (fun g => osl packR 36 g.A g.c (toL (s.L.take g.i) k) :: cells b [.int .i64 s.nodes, .slice A s.L.length c, .int .i64 s.last] 81 :: osl packR 36 A c s.L :: L) (fun g => s.L.length - g.i) (⟨0, none, 0⟩) rfl (Nat.zero_le _) (GivesTo.g) (sub_cons rfl (sub_cons rfl (sub_cons rfl (sub_cons rfl (sub_nil))))) ?_
  rintro ⟨i, A1, c1⟩ hi
  dsimp only at hi ⊢
  refine T_seq ?_
  refine T_region ?_
  refine TL_y rfl rfl (Y_move rfl) ?_
  refine TL_y rfl rfl (Y_move rfl) ?_
  refine TL_y rfl rfl (Y_nil_check rfl) ?_
  refine TL_y rfl rfl (Y_field_addr rfl) ?_
  refine TL_y rfl rfl (Y_load rfl rfl) ?_
  refine TL_y rfl rfl (Y_len rfl) ?_
  refine TL_y rfl rfl (Y_lt rfl rfl) ?_
  refine TL_nil ?_
  refine T_if rfl (fun h13 => ?_) (fun h13 => ?_)
  · refine T_skip ?_
    refine thenS_normal ?_
    refine T_seq ?_
    refine T_block ?_
    obtain ⟨p, hp⟩ : ∃ p, s.L[i]? = some p := ⟨_, List.getElem?_eq_getElem (by omega)⟩
    have hpk := packOk_of hni (List.mem_of_getElem? hp)
    have htk : toL (s.L.take (i + 1)) k = toL (s.L.take i) k ++ toL [p] k := by rw [takeN_at hp]; exact List.filter_append _ _
    have hts : (toL (s.L.take i) k).length ≤ 65536 := Nat.le_trans (List.length_filter_le _ _) (by rw [List.length_take]; omega)
    refine T_addr_n (sln (A := A) (c := c)) hp fun bq oq eq => ?_
    subst eq
    refine T_region ?_
    refine TL_y rfl rfl (Y_move rfl) ?_
    refine TL_y rfl rfl (Y_nil_check rfl) ?_
    refine TL_y rfl rfl (Y_field_addr rfl) ?_
    refine TL_y rfl rfl (Y_load rfl rfl) ?_
    refine TL_y rfl rfl (Y_move rfl) ?_
    refine TL_y rfl rfl (Y_index_n (R := packR) (xs := s.L) rfl rfl rfl hp) ?_
    refine TL_y rfl rfl (Y_field_addr2 rfl) ?_
    refine TL_y rfl rfl (Y_load_n (R := packR) (c := c) (xs := s.L) (q := 2) rfl sln hp rfl) ?_
    refine TL_y rfl rfl (Y_move rfl) ?_
    refine TL_y rfl rfl (Y_eq rfl rfl) ?_
    refine TL_nil ?_
    refine T_if rfl (fun h25 => ?_) (fun h25 => ?_)
    · have htp : toL [p] k = [p] := by simp [toL, h25]
      rw [htp] at htk
      refine T_region_last ?_
      refine TL_y rfl rfl (Y_move rfl) ?_
      refine TL_y rfl rfl (Y_move rfl) ?_
      refine TL_y rfl rfl (Y_nil_check rfl) ?_
      refine TL_y rfl rfl (Y_field_addr rfl) ?_
      refine TL_y rfl rfl (Y_load rfl rfl) ?_
      refine TL_y rfl rfl (Y_move rfl) ?_
      refine TL_y rfl rfl (Y_index_n (R := packR) (xs := s.L) rfl rfl rfl hp) ?_
      refine TL_y rfl rfl (Y_load_naf (R := packR) (c := c) (xs := s.L) (q := 0) (vs := packC p) rfl sln hp rfl) ?_
      refine TL_build_slice rfl rfl rfl rfl rfl rfl ?_
      intro b34
      refine TL_osl (k := 1) packR [p] (Knows.const fun M => ⟨packC p, [], ⟨rfl, hpk⟩, rfl, rfl⟩) rfl (by decide) ?_
      refine TL_freeze_osl ?_
      refine TL_name 34 (v' := .slice (some ⟨b34, 0, none⟩) [p].length 1) rfl rfl ?_
      refine TL_append rfl rfl rfl rfl rfl slk (by simp only [List.length_cons, List.length_nil]; omega) ?_
      intro A35 c35
      rw [← htk]
      refine TL_y rfl rfl (Y_assign rfl) ?_
      refine TL_nil ?_
      refine inB_normal ?_
      refine thenS_normal ?_
      refine T_region_last ?_
      refine TL_y rfl rfl (Y_move rfl) ?_
      refine TL_y rfl rfl (Y_add rfl rfl (by omega)) ?_
      refine TL_name 15 (v' := .int .i64 ((i + 1 : Nat) : Int)) rfl (rfl) ?_
      refine TL_y rfl rfl (Y_assign rfl) ?_
      refine TL_nil ?_
      refine thenS_normal ?_
      exact ⟨⟨i + 1, A35, c35⟩, (by dsimp only; omega), by dsimp only; omega, holds_to (sub_cons rfl (sub_cons rfl (sub_cons rfl (sub_cons rfl (sub_nil))))) GivesTo.g⟩
    · have htp : toL [p] k = [] := by simp [toL, h25]
      rw [htp, List.append_nil] at htk
      rw [← htk]
      refine T_skip ?_
      refine inB_normal ?_
      refine thenS_normal ?_
      refine T_region_last ?_
      refine TL_y rfl rfl (Y_move rfl) ?_
      refine TL_y rfl rfl (Y_add rfl rfl (by omega)) ?_
      refine TL_name 15 (v' := .int .i64 ((i + 1 : Nat) : Int)) rfl (rfl) ?_
      refine TL_y rfl rfl (Y_assign rfl) ?_
      refine TL_nil ?_
      refine thenS_normal ?_
      exact ⟨⟨i + 1, A1, c1⟩, (by dsimp only; omega), by dsimp only; omega, holds_to (sub_cons rfl (sub_cons rfl (sub_cons rfl (sub_cons rfl (sub_nil))))) GivesTo.g⟩
  · refine T_exit ?_
    refine thenS_exit ?_
    refine thenS_exit ?_
    refine inB_hit ?_
    refine thenS_normal ?_
    refine T_region ?_
    refine TL_y rfl rfl (Y_move rfl) ?_
    refine TL_y rfl rfl (Y_assign rfl) ?_
    refine TL_nil ?_
    refine T_ret ?_
    have e : s.L.take i = s.L := List.take_of_length_le (by omega)
    rw [e]
    refine RetQ.gives (rn_close (A := A) (c := c) b s) ?_
    refine RetQ.gives (show Gives _ (osl packR 36 A1 c1 (toL s.L k) :: rn b s :: L) from GivesTo.g) ?_
    exact RetG_1 (.inl rfl) rfl (ResV.tmp rfl) GivesTo.g (⟨_, _, rfl, rfl⟩)
end Go.SL
