/- Dots (STR): in memory; the short walks. -/
import Derived.Test.YtooadkecmchpaaaDtS
import Derived.Test.YtooadkecmchpaaaSlP
import Derived.Test.YtooadkecmchpaaaDtC
import Derived.Test.YtooadkecmchpaaaItB
set_option linter.unusedVariables false
set_option linter.unusedSimpArgs false
namespace Go.SL
open Go Go.Proofs
def mapsSTR (bts : List Nat) (l : List (DotD × tSTR)) : List HP := (List.range 7).map fun o : Nat => omap intK rSTR false (bts.getD o 0) (atO l (o : Int))
theorem mapsSTR_at {bts : List Nat} {l : List (DotD × tSTR)} {o bt : Nat} (ho : o < 7) (hb : bts[o]? = some bt) : (mapsSTR bts l)[o]? = some (omap intK rSTR false bt (atO l (o : Int))) := by
  simp [mapsSTR, ho, hb]
theorem mapsSTR_len (bts : List Nat) (l : List (DotD × tSTR)) : (mapsSTR bts l).length = 7 := by simp [mapsSTR]
theorem mapsSTR_set {bts : List Nat} {l l' : List (DotD × tSTR)} {o bt : Nat} (ho : o < 7) (hb : bts[o]? = some bt) (h : ∀ o' : Nat, o' ≠ o → atO l' (o' : Int) = atO l (o' : Int)) : (mapsSTR bts l).set o (omap intK rSTR false bt (atO l' (o : Int))) = mapsSTR bts l' := by
  apply List.ext_getElem?
  intro i
  rw [List.getElem?_set]
  by_cases hi : o = i
  · subst hi
    rw [if_pos rfl, mapsSTR_at ho hb, if_pos (by rw [mapsSTR_len]; exact ho)]
  · rw [if_neg hi]
    simp only [mapsSTR, List.getElem?_map]
    by_cases h7 : i < 7
    · simp [h7, h i (fun e => hi e.symm)]
    · simp [h7]
structure DsSTR where
  bts : List Nat
  A : Option Addr
  c : Nat
  V : Option Addr
  cv : Nat
abbrev dsSTRF (b : Nat) (l : List (DotD × tSTR)) (p : DsSTR) : List HP := [cells b [.slice p.A 7 p.c, .slice p.V 7 p.cv, .int .i64 (l.length : Int)] 100, osl mapOR 101 p.A p.c (p.bts.map some), osl (intR .i64) 3 p.V p.cv (vecL l), allH (mapsSTR p.bts l), pure (DI l ∧ p.bts.length = 7)]
def dsSTR (b : Nat) (p : DsSTR) (l : List (DotD × tSTR)) : HP := unS (dsSTRF b l p)
instance findK_dsSTR {L : List HP} {b : Nat} {p : DsSTR} {l : List (DotD × tSTR)} : FindK (dsSTR b p l :: L) b (dsSTR b p l) L := ⟨Gives.refl _⟩
section
variable {r : Option Nat} {n : Nat} {P : Program} {ops : Array Oper} {rest : List Oper} {K : St → Prop} {Q : Exit → St → Prop} {D : List Deferred} {E : Env} {L L' : List HP} {b : Nat} {l : List (DotD × tSTR)}
theorem dsSTR_open {p : DsSTR} {W w : World} (h : Sat W w (dsSTR b p l :: L)) : DI l ∧ p.bts.length = 7 ∧ Sat W w (cells b [.slice p.A 7 p.c, .slice p.V 7 p.cv, .int .i64 (l.length : Int)] 100 :: osl mapOR 101 p.A p.c (p.bts.map some) :: osl (intR .i64) 3 p.V p.cv (vecL l) :: allH (mapsSTR p.bts l) :: L) := by
  have hp := h.gives (unS_open (L := dsSTRF b l p) (L' := L))
  obtain ⟨M, k, hd, hM, hk, h1, h2, hd', l1, l2, hq, hs⟩ := (hp.gives (Gives.pull 4 (dsSTRF b l p ++ L))).ex
  exact ⟨hq.1, hq.2, (hp.gives (Gives.pull 4 (dsSTRF b l p ++ L))).gives (Gives.drop _ _)⟩
theorem T_dsSTR {p : DsSTR} {c : Code} (h : DI l → p.bts.length = 7 → T r n P c ⟨D, E, cells b [.slice p.A 7 p.c, .slice p.V 7 p.cv, .int .i64 (l.length : Int)] 100 :: osl mapOR 101 p.A p.c (p.bts.map some) :: osl (intR .i64) 3 p.V p.cv (vecL l) :: allH (mapsSTR p.bts l) :: L⟩ Q) : T r n P c ⟨D, E, dsSTR b p l :: L⟩ Q := fun W a w hh => by
  obtain ⟨h1, h2, hs⟩ := dsSTR_open hh.2
  exact h h1 h2 W a w ⟨hh.1, hs⟩
theorem TL_dsSTR {p : DsSTR} (h : DI l → p.bts.length = 7 → TL r n P ops rest ⟨D, E, cells b [.slice p.A 7 p.c, .slice p.V 7 p.cv, .int .i64 (l.length : Int)] 100 :: osl mapOR 101 p.A p.c (p.bts.map some) :: osl (intR .i64) 3 p.V p.cv (vecL l) :: allH (mapsSTR p.bts l) :: L⟩ K) : TL r n P ops rest ⟨D, E, dsSTR b p l :: L⟩ K := fun W a w hh => by
  obtain ⟨h1, h2, hs⟩ := dsSTR_open hh.2
  exact h h1 h2 W a w ⟨hh.1, hs⟩
theorem T_dsSTRI {p : DsSTR} {c : Code} (h : DI l → T r n P c ⟨D, E, dsSTR b p l :: L⟩ Q) : T r n P c ⟨D, E, dsSTR b p l :: L⟩ Q := fun W a w hh => by
  obtain ⟨h1, h2, hs⟩ := dsSTR_open hh.2
  exact h h1 W a w hh
theorem dsSTR_close {L1 L2 L3 L4 : List HP} (b : Nat) (p : DsSTR) (l : List (DotD × tSTR)) [h1 : FindC L b [.slice p.A 7 p.c, .slice p.V 7 p.cv, .int .i64 (l.length : Int)] 100 L1] [h2 : FindHP L1 (osl mapOR 101 p.A p.c (p.bts.map some)) L2] [h3 : FindHP L2 (osl (intR .i64) 3 p.V p.cv (vecL l)) L3] [h4 : FindHP L3 (allH (mapsSTR p.bts l)) L4] (hi : DI l) (hb : p.bts.length = 7) : Gives L (dsSTR b p l :: L4) := by
  refine Gives.trans (h1.g.trans (Gives.cons _ (h2.g.trans (Gives.cons _ (h3.g.trans (Gives.cons _ h4.g)))))) ?_
  refine Gives.trans ?_ (unS_close (L := dsSTRF b l p) (L' := L4))
  exact Gives.cons _ (Gives.cons _ (Gives.cons _ (Gives.cons _ (Gives.pure_intro ⟨hi, hb⟩))))
/-- One origin's map taken out, and put back. -/
theorem T_outSTR {c : Code} {bts : List Nat} {o bt : Nat} {L0 : List HP} [hf : FindHP L (allH (mapsSTR bts l)) L0] (ho : o < 7) (hb : bts[o]? = some bt) (h : T r n P c ⟨D, E, omap intK rSTR false bt (atO l (o : Int)) :: allH ((mapsSTR bts l).set o hole) :: L0⟩ Q) : T r n P c ⟨D, E, L⟩ Q := T_gives (hf.g.trans (allH_take (mapsSTR_at ho hb))) h
theorem inSTR {bts : List Nat} {l l' : List (DotD × tSTR)} {o bt : Nat} {L L0 L1 : List HP} [h1 : FindM L bt Int tSTR intK rSTR false (atO l' (o : Int)) L0] [h2 : FindHP L0 (allH ((mapsSTR bts l).set o hole)) L1] (ho : o < 7) (hb : bts[o]? = some bt) (h : ∀ o' : Nat, o' ≠ o → atO l' (o' : Int) = atO l (o' : Int)) : Gives L (allH (mapsSTR bts l') :: L1) :=
  (h1.g.trans (Gives.cons _ h2.g)).trans (by rw [← mapsSTR_set ho hb h]; exact allH_put (by rw [mapsSTR_len]; exact ho))
end
theorem may_ok {d : DotD} (h : mayD d) : dotOk d := by
  unfold mayD at h
  exact ⟨i64In_mk (by omega), i64In_mk (by omega)⟩
theorem mayD_spec (L : List HP) (d : DotD) : Fn Try.prog 55 #[dotV d] L (fun v L' => v = .bool (decide (mayD d)) ∧ L' = L) := by
  refine Fn_enter Try.func55 rfl rfl rfl rfl ?_
  refine T_region ?_
  refine TL_box rfl rfl rfl ?_
  intro b1
  refine TL_y rfl rfl (Y_assign rfl) ?_
  refine TL_nil ?_
  refine T_region ?_
  refine TL_y rfl rfl (Y_field_addr rfl) ?_
  refine TL_y rfl rfl (Y_load rfl rfl) ?_
  refine TL_y rfl rfl (Y_ge rfl rfl) ?_
  refine TL_both 15 20 (mayD d) ?_ ?_
  · refine TL_y rfl rfl (Y_move rfl) ?_
    refine TL_splitd 6 rfl (fun h6 => ?_) (fun h6 => ?_)
    · refine TL_grun rfl rfl ?_
      refine TL_y rfl rfl (Y_field_addr rfl) ?_
      refine TL_grun rfl rfl ?_
      refine TL_y rfl rfl (Y_load rfl rfl) ?_
      refine TL_grun rfl rfl ?_
      refine TL_y rfl rfl (Y_lt rfl rfl) ?_
      refine TL_y rfl rfl (Y_pick_t rfl rfl) ?_
      refine TL_y rfl rfl (Y_move rfl) ?_
      refine TL_splitd 11 rfl (fun h11 => ?_) (fun h11 => ?_)
      · refine TL_grun rfl rfl ?_
        refine TL_y rfl rfl (Y_field_addr rfl) ?_
        refine TL_grun rfl rfl ?_
        refine TL_y rfl rfl (Y_load rfl rfl) ?_
        refine TL_grun rfl rfl ?_
        refine TL_y rfl rfl (Y_ge rfl rfl) ?_
        refine TL_y rfl rfl (Y_pick_t rfl rfl) ?_
        refine TL_y rfl rfl (Y_move rfl) ?_
        refine TL_splitd 16 rfl (fun h16 => ?_) (fun h16 => ?_)
        · refine TL_grun rfl rfl ?_
          refine TL_y rfl rfl (Y_field_addr rfl) ?_
          refine TL_grun rfl rfl ?_
          refine TL_y rfl rfl (Y_load rfl rfl) ?_
          refine TL_grun rfl rfl ?_
          refine TL_y rfl rfl (Y_le rfl rfl) ?_
          refine TL_y rfl rfl (Y_pick_t rfl rfl) ?_
          refine TL_chain_end rfl ?_ (by repeat (first | exact sub_refl | refine sub_ext rfl ?_)) GivesTo.g
          exact congrArg Value.bool (decide_eq_decide.2 (by unfold mayD; omega))
        · refine TL_gskip rfl rfl rfl rfl ?_
          refine TL_gskip rfl rfl rfl rfl ?_
          refine TL_gskip rfl rfl rfl rfl ?_
          refine TL_y rfl rfl (Y_pick_f rfl rfl) ?_
          refine TL_chain_end rfl ?_ (by repeat (first | exact sub_refl | refine sub_ext rfl ?_)) GivesTo.g
          exact congrArg Value.bool (decide_eq_false (by unfold mayD; omega)).symm
      · refine TL_gskip rfl rfl rfl rfl ?_
        refine TL_gskip rfl rfl rfl rfl ?_
        refine TL_gskip rfl rfl rfl rfl ?_
        refine TL_y rfl rfl (Y_pick_f rfl rfl) ?_
        refine TL_y rfl rfl (Y_move rfl) ?_
        refine TL_gskip rfl rfl rfl rfl ?_
        refine TL_gskip rfl rfl rfl rfl ?_
        refine TL_gskip rfl rfl rfl rfl ?_
        refine TL_y rfl rfl (Y_pick_f rfl rfl) ?_
        refine TL_chain_end rfl ?_ (by repeat (first | exact sub_refl | refine sub_ext rfl ?_)) GivesTo.g
        exact congrArg Value.bool (decide_eq_false (by unfold mayD; omega)).symm
    · refine TL_gskip rfl rfl rfl rfl ?_
      refine TL_gskip rfl rfl rfl rfl ?_
      refine TL_gskip rfl rfl rfl rfl ?_
      refine TL_y rfl rfl (Y_pick_f rfl rfl) ?_
      refine TL_y rfl rfl (Y_move rfl) ?_
      refine TL_gskip rfl rfl rfl rfl ?_
      refine TL_gskip rfl rfl rfl rfl ?_
      refine TL_gskip rfl rfl rfl rfl ?_
      refine TL_y rfl rfl (Y_pick_f rfl rfl) ?_
      refine TL_y rfl rfl (Y_move rfl) ?_
      refine TL_gskip rfl rfl rfl rfl ?_
      refine TL_gskip rfl rfl rfl rfl ?_
      refine TL_gskip rfl rfl rfl rfl ?_
      refine TL_y rfl rfl (Y_pick_f rfl rfl) ?_
      refine TL_chain_end rfl ?_ (by repeat (first | exact sub_refl | refine sub_ext rfl ?_)) GivesTo.g
      exact congrArg Value.bool (decide_eq_false (by unfold mayD; omega)).symm
  refine TL_y rfl rfl (Y_assign rfl) ?_
  refine TL_nil ?_
  refine T_ret ?_
  exact RetG_1 (.inl rfl) rfl (ResV.tmp rfl) GivesTo.g (⟨rfl, rfl⟩)
theorem madeSTR_spec {L : List HP} {b : Nat} {p : DsSTR} {l : List (DotD × tSTR)} : Fn Try.prog 57 #[.pointer (some ⟨b, 0, none⟩)] (dsSTR b p l :: L) (fun v L' => v = .bool true ∧ L' = dsSTR b p l :: L) := by
  refine Fn_enter Try.func57 rfl rfl rfl rfl ?_
  refine T_dsSTR fun hi hp => ?_
  refine T_region ?_
  refine TL_y rfl rfl (Y_assign rfl) ?_
  refine TL_nil ?_
  refine T_region ?_
  refine TL_y rfl rfl (Y_move rfl) ?_
  refine TL_y rfl rfl (Y_unequal rfl rfl (EqIs.ptr_nil)) ?_
  refine TL_name 4 (v' := .bool true) rfl (by simp) ?_
  refine TL_y rfl rfl (Y_move rfl) ?_
  refine TL_grun rfl rfl ?_
  refine TL_y rfl rfl (Y_move rfl) ?_
  refine TL_grun rfl rfl ?_
  refine TL_y rfl rfl (Y_nil_check rfl) ?_
  refine TL_grun rfl rfl ?_
  refine TL_y rfl rfl (Y_field_addr rfl) ?_
  refine TL_grun rfl rfl ?_
  refine TL_y rfl rfl (Y_load rfl rfl) ?_
  refine TL_grun rfl rfl ?_
  refine TL_y rfl rfl (Y_len rfl) ?_
  refine TL_grun rfl rfl ?_
  refine TL_y rfl rfl (Y_gt rfl rfl) ?_
  refine TL_name 11 (v' := .bool true) rfl (by simp) ?_
  refine TL_y rfl rfl (Y_pick_t rfl rfl) ?_
  refine TL_y rfl rfl (Y_assign rfl) ?_
  refine TL_nil ?_
  refine T_ret ?_
  refine RetQ.gives (dsSTR_close b p l hi hp) ?_
  exact RetG_1 (.inl rfl) rfl (ResV.tmp rfl) GivesTo.g (⟨rfl, rfl⟩)
theorem madeSTR_nil (L : List HP) : Fn Try.prog 57 #[.pointer none] L (fun v L' => v = .bool false ∧ L' = L) := by
  refine Fn_enter Try.func57 rfl rfl rfl rfl ?_
  refine T_region ?_
  refine TL_y rfl rfl (Y_assign rfl) ?_
  refine TL_nil ?_
  refine T_region ?_
  refine TL_y rfl rfl (Y_move rfl) ?_
  refine TL_y rfl rfl (Y_unequal rfl rfl (EqIs.ptr_nil)) ?_
  refine TL_name 4 (v' := .bool false) rfl (by simp) ?_
  refine TL_y rfl rfl (Y_move rfl) ?_
  refine TL_gskip rfl rfl rfl rfl ?_
  refine TL_gskip rfl rfl rfl rfl ?_
  refine TL_gskip rfl rfl rfl rfl ?_
  refine TL_gskip rfl rfl rfl rfl ?_
  refine TL_gskip rfl rfl rfl rfl ?_
  refine TL_gskip rfl rfl rfl rfl ?_
  refine TL_y rfl rfl (Y_pick_f rfl rfl) ?_
  refine TL_y rfl rfl (Y_assign rfl) ?_
  refine TL_nil ?_
  refine T_ret ?_
  exact RetG_1 (.inl rfl) rfl (ResV.tmp rfl) GivesTo.g (⟨rfl, rfl⟩)
theorem lenSTR_spec {L : List HP} {b : Nat} {p : DsSTR} {l : List (DotD × tSTR)} : Fn Try.prog 25 #[.pointer (some ⟨b, 0, none⟩)] (dsSTR b p l :: L) (fun v L' => v = .int .i64 (l.length : Int) ∧ L' = dsSTR b p l :: L) := by
  refine Fn_enter Try.func25 rfl rfl rfl rfl ?_
  refine T_region ?_
  refine TL_y rfl rfl (Y_assign rfl) ?_
  refine TL_nil ?_
  refine T_seq ?_
  refine T_region ?_
  refine TL_y rfl rfl (Y_move rfl) ?_
  refine TL_pullk b ?_
  refine TL_call rfl rfl (madeSTR_spec) ?_
  rintro _ _ ⟨rfl, rfl⟩
  refine TL_name 4 (v' := .bool true) rfl (rfl) ?_
  refine TL_y rfl rfl (Y_not_t rfl) ?_
  refine TL_nil ?_
  refine T_cond_false rfl ?_
  refine T_skip ?_
  refine thenS_normal ?_
  refine T_dsSTR fun hi hp => ?_
  refine T_region ?_
  refine TL_y rfl rfl (Y_move rfl) ?_
  refine TL_y rfl rfl (Y_nil_check rfl) ?_
  refine TL_y rfl rfl (Y_field_addr rfl) ?_
  refine TL_y rfl rfl (Y_load rfl rfl) ?_
  refine TL_y rfl rfl (Y_assign rfl) ?_
  refine TL_nil ?_
  refine T_ret ?_
  refine RetQ.gives (dsSTR_close b p l hi hp) ?_
  exact RetG_1 (.inl rfl) rfl (ResV.tmp rfl) GivesTo.g (⟨rfl, rfl⟩)
/-- A map's answer in full: value and truth. -/
def getVSTR (l : List (DotD × tSTR)) (d : DotD) : tSTR := (getM l d).getD zSTR
theorem getSTR_spec {L : List HP} {b : Nat} {p : DsSTR} {l : List (DotD × tSTR)} (d : DotD) : Fn Try.prog 29 #[.pointer (some ⟨b, 0, none⟩), dotV d] (dsSTR b p l :: L) (fun v L' => v = .tuple #[vSTR (getVSTR l d), .bool (getM l d).isSome] ∧ L' = dsSTR b p l :: L) := by
  refine Fn_enter Try.func29 rfl rfl rfl rfl ?_
  refine T_region ?_
  refine TL_box rfl rfl rfl ?_
  intro b3
  refine TL_y rfl rfl (Y_assign rfl) ?_
  refine TL_y rfl rfl (Y_assign rfl) ?_
  refine TL_nil ?_
  refine T_seq ?_
  refine T_region ?_
  refine TL_y rfl rfl (Y_move rfl) ?_
  refine TL_pullk b ?_
  refine TL_call rfl rfl (madeSTR_spec) ?_
  rintro _ _ ⟨rfl, rfl⟩
  refine TL_name 10 (v' := .bool true) rfl (rfl) ?_
  refine TL_y rfl rfl (Y_not_t rfl) ?_
  refine TL_y rfl rfl (Y_move rfl) ?_
  refine TL_grun rfl rfl ?_
  refine TL_y rfl rfl (Y_load_agg rfl rfl) ?_
  refine TL_grun rfl rfl ?_
  refine TL_call rfl rfl (mayD_spec _ d) ?_
  rintro _ _ ⟨rfl, rfl⟩
  refine TL_grun rfl rfl ?_
  refine TL_y rfl rfl (Y_not_d rfl) ?_
  refine TL_y rfl rfl (Y_pick_f rfl rfl) ?_
  refine TL_nil ?_
  refine T_if rfl (fun h16 => ?_) (fun h16 => ?_)
  · refine T_pullk b ?_
    refine T_dsSTRI fun hi => ?_
    have hn : getM l d = none := by cases hg : getM l d with | none => rfl | some _ => exact absurd (hi.has_may (by unfold hasD; rw [hg]; rfl)) h16
    refine T_region ?_
    refine TL_y rfl rfl (Y_assign rfl) ?_
    refine TL_nil ?_
    refine T_region ?_
    refine TL_y rfl rfl (Y_move rfl) ?_
    refine TL_y rfl rfl (Y_assign rfl) ?_
    refine TL_y rfl rfl (Y_assign rfl) ?_
    refine TL_nil ?_
    refine T_ret ?_
    refine thenS_ret ?_
    rw [show getVSTR l d = zSTR by unfold getVSTR; rw [hn]; rfl, hn]
    exact RetG_2 (.inl rfl) rfl (ResV.tmp rfl) (ResV.tmp rfl) GivesTo.g (⟨rfl, rfl⟩)
  · refine T_skip ?_
    refine thenS_normal ?_
    obtain ⟨o, ho⟩ : ∃ o : Nat, d.1 = (o : Int) := ⟨d.1.toNat, by have hm := Classical.not_not.1 h16; unfold mayD at hm; omega⟩
    have hm := Classical.not_not.1 h16
    unfold mayD at hm
    have ho7 : o < 7 := by omega
    refine T_pullk b ?_
    refine T_dsSTR fun hi hp => ?_
    obtain ⟨bt, hbt⟩ : ∃ bt, p.bts[o]? = some bt := ⟨_, List.getElem?_eq_getElem (by omega)⟩
    refine T_outSTR (l := l) ho7 hbt ?_
    have hu : (p.bts.map some)[o]? = some (some bt) := by simp [hbt]
    obtain ⟨bts, A, c, V, cv⟩ := p
    dsimp only at hp hbt hu ⊢
    refine T_addr_n (sln (A := A) (c := c) (R := mapOR)) hu fun bq oq eq => ?_
    subst eq
    refine T_region_draw _ [0, 1, 3, 7, 0, 16, 63, 127, 0, 256, 1023, 2047, 4095, 4095, 8191, 32767] [] [(0, true), (1, true), (2, true), (3, true), (4, true), (5, true), (6, true), (7, true), (8, true), (9, true), (10, true), (11, true), (12, true), (13, true), (14, true), (15, true)] (by kernel_rfl) (by decide +kernel) (Gives.refl _) ?_
    refine TF_y rfl rfl (Y_move rfl) ?_
    refine TF_y rfl rfl (Y_nil_check rfl) ?_
    refine TF_y rfl rfl (Y_field_addr rfl) ?_
    refine TF_y rfl rfl (Y_load rfl rfl) ?_
    refine TF_y rfl rfl (Y_field_addr rfl) ?_
    refine TF_y rfl rfl (Y_load rfl rfl) ?_
    refine TF_name 24 (v' := .int .i64 (o : Int)) rfl (by rw [ho]) ?_
    refine TF_y rfl rfl (Y_index_n (R := mapOR) (xs := bts.map some) rfl rfl (by simp [hp]) hu) ?_
    refine TF_y rfl rfl (Y_load_n (R := mapOR) (c := c) (xs := bts.map some) (q := 0) rfl sln hu rfl) ?_
    refine TF_y rfl rfl (Y_field_addr rfl) ?_
    refine TF_y rfl rfl (Y_load rfl rfl) ?_
    refine TF_y rfl rfl (Y_lookup_ok (k := d.2) rfl rfl (may_ok (Classical.not_not.1 h16)).2) ?_
    refine TF_name 29 (v' := .tuple #[vSTR (getVSTR l d), .bool (getM l d).isSome]) rfl (by rw [getM_atO, ← ho]; unfold getVSTR; rw [show (d.1, d.2) = d from rfl]; cases getM l d <;> rfl) ?_
    refine TF_y rfl rfl (Y_move rfl) ?_
    refine TF_y rfl rfl (Y_extract rfl rfl) ?_
    refine TF_y rfl rfl (Y_extract rfl rfl) ?_
    refine TF_y rfl rfl (Y_assign rfl) ?_
    refine TF_y rfl rfl (Y_assign rfl) ?_
    refine TF_nil ?_
    refine T_region ?_
    refine TL_y rfl rfl (Y_move rfl) ?_
    refine TL_y rfl rfl (Y_move rfl) ?_
    refine TL_y rfl rfl (Y_assign rfl) ?_
    refine TL_y rfl rfl (Y_assign rfl) ?_
    refine TL_nil ?_
    refine T_ret ?_
    refine RetQ.gives (inSTR (l := l) (l' := l) ho7 hbt (fun _ _ => rfl)) ?_
    refine RetQ.gives (dsSTR_close b ⟨bts, some ⟨bq, oq, none⟩, c, V, cv⟩ l hi hp) ?_
    exact RetG_2 (.inl rfl) rfl (ResV.tmp rfl) (ResV.tmp rfl) GivesTo.g (⟨rfl, rfl⟩)
end Go.SL
