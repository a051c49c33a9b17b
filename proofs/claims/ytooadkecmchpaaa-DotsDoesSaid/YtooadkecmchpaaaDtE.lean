/- Dots (STR): Add, Vector, the iterators. -/
import Derived.Test.YtooadkecmchpaaaDtD
set_option linter.unusedVariables false
set_option linter.unusedSimpArgs false
namespace Go.SL
open Go Go.Proofs
theorem vecSTR_set {l l' : List (DotD × tSTR)} {o : Nat} (ho : o < 7) (h : ∀ o' : Nat, o' ≠ o → vecO l' (o' : Int) = vecO l (o' : Int)) : (vecL l).set o ((vecO l' (o : Int) : Nat) : Int) = vecL l' := by
  apply List.ext_getElem?
  intro i
  rw [List.getElem?_set]
  by_cases hi : o = i
  · subst hi
    rw [if_pos rfl, if_pos (by rw [vecL_len]; exact ho), vecL_at ho]
  · rw [if_neg hi]
    by_cases h7 : i < 7
    · rw [vecL_at h7, vecL_at h7, h i (fun e => hi e.symm)]
    · rw [List.getElem?_eq_none (by rw [vecL_len]; omega), List.getElem?_eq_none (by rw [vecL_len]; omega)]
theorem addSTR_spec {L : List HP} {b : Nat} {p : DsSTR} {l : List (DotD × tSTR)} (d : DotD) (x : tSTR) (hx : okSTR x) : Fn Try.prog 16 #[.pointer (some ⟨b, 0, none⟩), dotV d, vSTR x] (dsSTR b p l :: L) (fun v L' => v = .int .i64 (addS l d x).2 ∧ L' = dsSTR b p (addS l d x).1 :: L) := by
  refine Fn_enter Try.func16 rfl rfl rfl rfl ?_
  refine T_region ?_
  refine TL_box rfl rfl rfl ?_
  intro b4
  refine TL_y rfl rfl (Y_assign rfl) ?_
  refine TL_nil ?_
  refine T_seq ?_
  refine T_block ?_
  refine T_region ?_
  refine TL_y rfl rfl (Y_move rfl) ?_
  refine TL_pullk b ?_
  refine TL_call rfl rfl (madeSTR_spec) ?_
  rintro _ _ ⟨rfl, rfl⟩
  refine TL_name 14 (v' := .bool true) rfl (rfl) ?_
  refine TL_y rfl rfl (Y_not_t rfl) ?_
  refine TL_y rfl rfl (Y_assign rfl) ?_
  refine TL_nil ?_
  refine T_cond_false rfl ?_
  refine T_region ?_
  refine TL_y rfl rfl (Y_load_agg rfl rfl) ?_
  refine TL_call rfl rfl (mayD_spec _ d) ?_
  rintro _ _ ⟨rfl, rfl⟩
  refine TL_y rfl rfl (Y_not_d rfl) ?_
  refine TL_y rfl rfl (Y_assign rfl) ?_
  refine TL_nil ?_
  refine T_if rfl (fun h16 => ?_) (fun h16 => ?_)
  · refine T_region ?_
    refine TL_y rfl rfl (Y_assign rfl) ?_
    refine TL_nil ?_
    refine T_ret ?_
    refine inB_ret ?_
    refine thenS_ret ?_
    have hs1 : addS l d x = (l, 1) := by unfold addS; rw [if_pos h16]
    rw [hs1]
    exact RetG_1 (.inl rfl) rfl (ResV.tmp rfl) GivesTo.g (⟨rfl, rfl⟩)
  · refine T_skip ?_
    refine inB_normal ?_
    refine thenS_normal ?_
    refine T_seq ?_
    refine T_region ?_
    refine TL_y rfl rfl (Y_move rfl) ?_
    refine TL_y rfl rfl (Y_load_agg rfl rfl) ?_
    refine TL_pullk b ?_
    refine TL_call rfl rfl (getSTR_spec d) ?_
    rintro _ _ ⟨rfl, rfl⟩
    refine TL_y rfl rfl (Y_move rfl) ?_
    refine TL_y rfl rfl (Y_extract rfl rfl) ?_
    refine TL_y rfl rfl (Y_extract rfl rfl) ?_
    refine TL_y rfl rfl (Y_assign rfl) ?_
    refine TL_y rfl rfl (Y_assign rfl) ?_
    refine TL_nil ?_
    refine T_region ?_
    refine TL_y rfl rfl (Y_move rfl) ?_
    refine TL_nil ?_
    refine T_cond rfl (fun h26 => ?_) (fun h26 => ?_)
    · have hd : hasD l d := h26
      refine T_region ?_
      refine TL_y rfl rfl (Y_assign rfl) ?_
      refine TL_nil ?_
      refine T_ret ?_
      refine thenS_ret ?_
      have hs1 : addS l d x = (l, 5) := by unfold addS; rw [if_neg h16, if_pos hd]
      rw [hs1]
      exact RetG_1 (.inl rfl) rfl (ResV.tmp rfl) GivesTo.g (⟨rfl, rfl⟩)
    · have hd : ¬ hasD l d := by unfold hasD; rw [h26]; simp
      refine T_skip ?_
      refine thenS_normal ?_
      refine T_seq ?_
      refine T_pullk b ?_
      refine T_dsSTR fun hi hp => ?_
      have hlen := hi.len
      refine T_region ?_
      refine TL_y rfl rfl (Y_move rfl) ?_
      refine TL_y rfl rfl (Y_nil_check rfl) ?_
      refine TL_y rfl rfl (Y_field_addr rfl) ?_
      refine TL_y rfl rfl (Y_load rfl rfl) ?_
      refine TL_y rfl rfl (Y_ge rfl rfl) ?_
      refine TL_nil ?_
      refine T_if rfl (fun h31 => ?_) (fun h31 => ?_)
      · refine T_region ?_
        refine TL_y rfl rfl (Y_assign rfl) ?_
        refine TL_nil ?_
        refine T_ret ?_
        refine thenS_ret ?_
        have hs1 : addS l d x = (l, 2) := by unfold addS; rw [if_neg h16, if_neg hd, if_pos (by omega)]
        rw [hs1]
        refine RetQ.gives (dsSTR_close b p l hi hp) ?_
        exact RetG_1 (.inl rfl) rfl (ResV.tmp rfl) GivesTo.g (⟨rfl, rfl⟩)
      · refine T_skip ?_
        refine thenS_normal ?_
        have hs1 : addS l d x = (putD l d x, 0) := by unfold addS; rw [if_neg h16, if_neg hd, if_neg (by omega)]
        have hm0 := Classical.not_not.1 h16
        have hdk := may_ok hm0
        have hi2 := hi.put (x := x) hd hm0 (by omega)
        obtain ⟨o, ho⟩ : ∃ o : Nat, d.1 = (o : Int) := ⟨d.1.toNat, by have hm := hm0; unfold mayD at hm; omega⟩
        have hm := hm0
        unfold mayD at hm
        have ho7 : o < 7 := by omega
        obtain ⟨bt, hbt⟩ : ∃ bt, p.bts[o]? = some bt := ⟨_, List.getElem?_eq_getElem (by omega)⟩
        refine T_outSTR (l := l) ho7 hbt ?_
        have hu : (p.bts.map some)[o]? = some (some bt) := by simp [hbt]
        obtain ⟨bts, A, c, V, cv⟩ := p
        dsimp only at hp hbt hu ⊢
        refine T_addr_n (sln (A := A) (c := c) (R := mapOR)) hu fun bq oq eq => ?_
        subst eq
        have hother : ∀ o' : Nat, o' ≠ o → atO (putD l d x) (o' : Int) = atO l (o' : Int) := fun o' h => putD_other (by rw [ho]; omega)
        have hvo : ∀ o' : Nat, o' ≠ o → vecO (putD l d x) (o' : Int) = vecO l (o' : Int) := fun o' h => vec_put_other (by rw [ho]; omega)
        have hvp := vec_put (d := d) (x := x) hi hi2 (o : Int)
        have hvl := hi2.vec_le (o : Int)
        have hl2 := hi2.len
        refine T_region_draw _ [0, 1, 3, 7, 0, 16, 63, 127, 255] [] [(0, true), (1, true), (2, true), (3, true), (4, true), (5, true), (6, true), (7, true), (8, true)] (by kernel_rfl) (by decide +kernel) (Gives.refl _) ?_
        refine TF_y rfl rfl (Y_move rfl) ?_
        refine TF_y rfl rfl (Y_nil_check rfl) ?_
        refine TF_y rfl rfl (Y_field_addr rfl) ?_
        refine TF_y rfl rfl (Y_load rfl rfl) ?_
        refine TF_y rfl rfl (Y_field_addr rfl) ?_
        refine TF_y rfl rfl (Y_load rfl rfl) ?_
        refine TF_name 37 (v' := .int .i64 (o : Int)) rfl (by rw [ho]) ?_
        refine TF_y rfl rfl (Y_index_n (R := mapOR) (xs := bts.map some) rfl rfl (by simp [hp]) hu) ?_
        refine TF_y rfl rfl (Y_load_n (R := mapOR) (c := c) (xs := bts.map some) (q := 0) rfl sln hu rfl) ?_
        refine TF_y rfl rfl (Y_assign rfl) ?_
        refine TF_nil ?_
        refine T_region ?_
        refine TL_y rfl rfl (Y_move rfl) ?_
        refine TL_y rfl rfl (Y_field_addr rfl) ?_
        refine TL_y rfl rfl (Y_load rfl rfl) ?_
        refine TL_y rfl rfl (Y_move rfl) ?_
        refine TL_update (k := d.2) (u := x) (cs := [vSTR x]) (atO (putD l d x) (o : Int)) rfl rfl rfl hdk.2 (Knows.const (repSTR hx)) (by rw [← ho]; exact putD_own hd) ?_
        refine TL_nil ?_
        refine T_region ?_
        refine TL_y rfl rfl (Y_move rfl) ?_
        refine TL_y rfl rfl (Y_nil_check rfl) ?_
        refine TL_y rfl rfl (Y_field_addr rfl) ?_
        refine TL_y rfl rfl (Y_load rfl rfl) ?_
        refine TL_y rfl rfl (Y_add rfl rfl (by omega)) ?_
        refine TL_name 48 (v' := .int .i64 ((putD l d x).length : Int)) rfl (by rw [putD_len]; rfl) ?_
        refine TL_y rfl rfl (Y_nil_check rfl) ?_
        refine TL_y rfl rfl (Y_field_addr rfl) ?_
        refine TL_store rfl rfl rfl rfl rfl rfl ?_
        refine TL_nil ?_
        refine T_block ?_
        refine T_loopK (σ := Nat) [0, 4, 9] (fun n => n ≤ vecO (putD l d x) (o : Int)) (fun n kv => kv) (fun n => osl (intR .i64) 3 V cv ((vecL l).set o (n : Int)) :: cells b4 (dotC d) 31 :: cells b [.slice (some ⟨bq, oq, none⟩) 7 c, .slice V 7 cv, .int .i64 ((putD l d x).length : Int)] 100 :: osl mapOR 101 (some ⟨bq, oq, none⟩) c (bts.map some) :: omap intK rSTR false bt (atO (putD l d x) (o : Int)) :: allH ((mapsSTR bts l).set o hole) :: L) (fun n => vecO (putD l d x) (o : Int) - n) (vecO l (o : Int)) rfl (hvp) ((show Gives _ (osl (intR .i64) 3 V cv ((vecL l).set o ((vecO l (o : Int) : Nat) : Int)) :: cells b4 (dotC d) 31 :: cells b [.slice (some ⟨bq, oq, none⟩) 7 c, .slice V 7 cv, .int .i64 ((putD l d x).length : Int)] 100 :: osl mapOR 101 (some ⟨bq, oq, none⟩) c (bts.map some) :: omap intK rSTR false bt (atO (putD l d x) (o : Int)) :: allH ((mapsSTR bts l).set o hole) :: L) by rw [vecSTR_set ho7 (fun _ _ => rfl)]; exact GivesTo.g)) (sub_cons rfl (sub_cons rfl (sub_cons rfl (sub_nil)))) ?_
        intro n hn
        refine T_block ?_
        refine T_seq ?_
        have hun : ((vecL l).set o (n : Int))[o]? = some (n : Int) := by rw [List.getElem?_set, if_pos rfl, if_pos (by rw [vecL_len]; exact ho7)]
        have hul : ((vecL l).set o (n : Int)).length = 7 := by rw [List.length_set, vecL_len]
        refine T_oaddr V cv hun fun g hg => ?_
        subst hg
        refine T_region_draw _ [0, 0, 2, 6, 14, 0, 32, 126, 254, 510, 1023, 2047, 4095, 4095, 8191, 32767] [] [(0, true), (1, true), (2, true), (3, true), (4, true), (5, true), (6, true), (7, true), (8, true), (9, true), (10, true), (11, true), (12, true), (13, true), (14, true), (15, true)] (by kernel_rfl) (by decide +kernel) (Gives.refl _) ?_
        refine TF_y rfl rfl (Y_move rfl) ?_
        refine TF_y rfl rfl (Y_move rfl) ?_
        refine TF_y rfl rfl (Y_nil_check rfl) ?_
        refine TF_y rfl rfl (Y_field_addr rfl) ?_
        refine TF_y rfl rfl (Y_load rfl rfl) ?_
        refine TF_y rfl rfl (Y_field_addr rfl) ?_
        refine TF_y rfl rfl (Y_load rfl rfl) ?_
        refine TF_name 58 (v' := .int .i64 (o : Int)) rfl (by rw [ho]) ?_
        refine TF_y rfl rfl (Y_index_x (R := intR .i64) (xs := (vecL l).set o (n : Int)) rfl rfl hul.symm hun) ?_
        refine TF_y rfl rfl (Y_load_n0 (R := intR .i64) (c := cv) (xs := (vecL l).set o (n : Int)) (q := 0) rfl sln hun rfl) ?_
        refine TF_y rfl rfl (Y_add rfl rfl (by omega)) ?_
        refine TF_y rfl rfl (Y_lookup_ok (k := (n : Int) + 1) rfl rfl (i64In_mk (by omega))) ?_
        refine TF_y rfl rfl (Y_move rfl) ?_
        refine TF_y rfl rfl (Y_extract rfl rfl) ?_
        refine TF_y rfl rfl (Y_extract rfl rfl) ?_
        refine TF_name 64 (v' := .bool (getM (putD l d x) ((o : Int), (n : Int) + 1)).isSome) rfl (by rw [getM_atO]) ?_
        refine TF_y rfl rfl (Y_assign rfl) ?_
        refine TF_y rfl rfl (Y_assign rfl) ?_
        refine TF_nil ?_
        refine T_region ?_
        refine TL_y rfl rfl (Y_move rfl) ?_
        refine TL_y rfl rfl (Y_not rfl) ?_
        refine TL_nil ?_
        refine T_cond rfl (fun h66 => ?_) (fun h66 => ?_)
        · have hg : ¬ hasD (putD l d x) ((o : Int), (n : Int) + 1) := by unfold hasD; simpa using h66
          have hn3 : vecO (putD l d x) (o : Int) = n := by rcases Nat.lt_or_eq_of_le hn with h | h; exact absurd (hi2.vec_has (o := (o : Int)) (j := (n : Int) + 1) (by omega) (by omega)) hg; exact h.symm
          refine T_region ?_
          refine TL_y rfl rfl (Y_assign rfl) ?_
          refine TL_nil ?_
          refine T_ret ?_
          refine thenS_ret ?_
          refine inB_ret ?_
          refine thenS_ret ?_
          refine inB_ret ?_
          rw [hs1, ← hn3, vecSTR_set ho7 hvo]
          refine RetQ.gives (inSTR (l := l) (l' := putD l d x) ho7 hbt hother) ?_
          refine RetQ.gives (dsSTR_close b ⟨bts, some ⟨bq, oq, none⟩, c, some ⟨g, 0, none⟩, cv⟩ (putD l d x) hi2 hp) ?_
          exact RetG_1 (.inl rfl) rfl (ResV.tmp rfl) GivesTo.g (⟨rfl, rfl⟩)
        · have hg : hasD (putD l d x) ((o : Int), (n : Int) + 1) := by unfold hasD; simpa using h66
          have hn4 : n < vecO (putD l d x) (o : Int) := by rcases Nat.lt_or_eq_of_le hn with h | h; exact h; (subst h; exact absurd hg (hi2.vec_gap _))
          refine T_skip ?_
          refine thenS_normal ?_
          refine T_region_draw_last _ [0, 1, 3, 7, 0, 16, 63, 127, 255, 511, 1023] [10] [(0, true), (1, true), (2, true), (3, true), (4, true), (5, true), (6, true), (7, true), (8, true), (9, true), (10, false)] (by kernel_rfl) (by decide +kernel) (Gives.refl _) ?_
          refine TF_y rfl rfl (Y_move rfl) ?_
          refine TF_y rfl rfl (Y_nil_check rfl) ?_
          refine TF_y rfl rfl (Y_field_addr rfl) ?_
          refine TF_y rfl rfl (Y_load rfl rfl) ?_
          refine TF_y rfl rfl (Y_field_addr rfl) ?_
          refine TF_y rfl rfl (Y_load rfl rfl) ?_
          refine TF_name 72 (v' := .int .i64 (o : Int)) rfl (by rw [ho]) ?_
          refine TF_y rfl rfl (Y_index_x (R := intR .i64) (xs := (vecL l).set o (n : Int)) rfl rfl hul.symm hun) ?_
          refine TF_y rfl rfl (Y_load_n0 (R := intR .i64) (c := cv) (xs := (vecL l).set o (n : Int)) (q := 0) rfl sln hun rfl) ?_
          refine TF_y rfl rfl (Y_add rfl rfl (by omega)) ?_
          refine TF_name 75 (v' := .int .i64 ((n + 1 : Nat) : Int)) rfl (rfl) ?_
          refine TF_y rfl rfl (Y_index_x (R := intR .i64) (xs := (vecL l).set o (n : Int)) rfl rfl hul.symm hun) ?_
          refine TF_anchor rfl ?_
          refine TL_focus (A := some ⟨g, 0, none⟩) (c := cv) hun fun g2 l2 hA2 hl2 => ?_
          obtain ⟨rfl⟩ : g2 = g := by cases hA2; rfl
          obtain ⟨lv, rfl⟩ := len_one hl2
          refine TL_store_x rfl rfl rfl rfl rfl rfl ?_
          refine TL_unx (R := intR .i64) g ((n + 1 : Nat) : Int) (Knows.const fun _ => ⟨rfl, i64In_mk (by omega)⟩) ?_
          rw [List.set_set]
          refine TF_end_tail rfl ?_
          refine TF_nil ?_
          refine inB_normal ?_
          refine thenS_normal ?_
          exact ⟨n + 1, (by omega), by omega, holds_to (sub_cons rfl (sub_cons rfl (sub_cons rfl (sub_nil)))) GivesTo.g⟩
theorem vectorSTR_spec {L : List HP} {b : Nat} {p : DsSTR} {l : List (DotD × tSTR)} : Fn Try.prog 20 #[.pointer (some ⟨b, 0, none⟩)] (dsSTR b p l :: L) (fun v L' => ∃ A c, v = .slice A (plainV (vecL l)).length c ∧ L' = osl (intR .i64) 3 A c (plainV (vecL l)) :: dsSTR b p l :: L) := by
  refine Fn_enter Try.func20 rfl rfl rfl rfl ?_
  refine T_region ?_
  refine TL_y rfl rfl (Y_assign rfl) ?_
  refine TL_nil ?_
  refine T_seq ?_
  refine T_region ?_
  refine TL_y rfl rfl (Y_move rfl) ?_
  refine TL_pullk b ?_
  refine TL_call rfl rfl (madeSTR_spec) ?_
  rintro _ _ ⟨rfl, rfl⟩
  refine TL_name 4 (v' := .bool true) rfl (rfl) ?_
  refine TL_y rfl rfl (Y_not_t rfl) ?_
  refine TL_nil ?_
  refine T_cond_false rfl ?_
  refine T_skip ?_
  refine thenS_normal ?_
  refine T_pullk b ?_
  refine T_dsSTR fun hi hp => ?_
  refine T_region ?_
  refine TL_y rfl rfl (Y_move rfl) ?_
  refine TL_y rfl rfl (Y_nil_check rfl) ?_
  refine TL_y rfl rfl (Y_field_addr rfl) ?_
  refine TL_y rfl rfl (Y_load rfl rfl) ?_
  refine TL_name 9 (v' := .slice p.V (vecL l).length p.cv) rfl (by rw [vecL_len]) ?_
  refine TL_call rfl rfl (vvPlain_spec (sln (A := p.V) (c := p.cv) (xs := vecL l)) (by rw [vecL_len]; decide)) ?_
  rintro _ _ ⟨A10, c10, rfl, rfl⟩
  refine TL_y rfl rfl (Y_assign rfl) ?_
  refine TL_nil ?_
  refine T_ret ?_
  refine RetQ.gives (dsSTR_close b p l hi hp) ?_
  exact RetG_1 (.inl rfl) rfl (ResV.tmp rfl) GivesTo.g (⟨A10, c10, rfl, rfl⟩)
theorem whereSTR_spec {L : List HP} {a : Value} {fw : FuncId} {f1 c1 : Array Value} (ha : a.oneCell' = true) (ha2 : partsOf a = some [a]) : Fn Try.prog 71 #[a, .func (.func fw) f1 c1] L (fun v L' => ∃ bn bw, v = .func (.func 107) #[] #[.pointer (some ⟨bn, 0, none⟩), .pointer (some ⟨bw, 0, none⟩)] ∧ L' = cells bn [a] 25 :: cells bw [.func (.func fw) f1 c1] 102 :: L) := by
  refine Fn_enter Try.func71 rfl rfl rfl rfl ?_
  refine T_region ?_
  refine TL_box rfl rfl ha2 ?_
  intro b2
  refine TL_box rfl rfl rfl ?_
  intro b3
  refine TL_y rfl rfl (Y_assign rfl) ?_
  refine TL_nil ?_
  refine T_region ?_
  refine TL_y rfl rfl (Y_make_func rfl rfl) ?_
  refine TL_y rfl rfl (Y_assign rfl) ?_
  refine TL_nil ?_
  refine T_ret ?_
  exact RetG_1 (.inl rfl) rfl (ResV.tmp rfl) GivesTo.g (⟨b2, b3, rfl, rfl⟩)
end Go.SL
