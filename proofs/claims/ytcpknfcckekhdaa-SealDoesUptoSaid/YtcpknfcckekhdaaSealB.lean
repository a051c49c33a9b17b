/- Seal: the walks of the machine's functions. -/
import Derived.Test.YtcpknfcckekhdaaSealA
set_option linter.unusedVariables false
set_option linter.unusedSimpArgs false
namespace Go.SL
open Go Go.Proofs
theorem sealNew0_spec (L : List HP) : Fn Try.prog 17 #[] L (fun v L' => ∃ b bt be, v = .pointer (some ⟨b, 0, none⟩) ∧ L' = cells b [.slice none 0 0, .map (some bt), .map (some be), .int .i64 0] 113 :: omap strK (intR .i64) false bt [] :: omap strK (intR .i64) false be [] :: L) := by
  refine Fn_enter Try.func17 rfl rfl rfl rfl ?_
  refine T_region ?_
  refine TL_y rfl rfl (Y_assign rfl) ?_
  refine TL_nil ?_
  refine T_region ?_
  refine TL_makeMap strK (intR .i64) false rfl ?_
  intro bt
  refine TL_makeMap strK (intR .i64) false rfl ?_
  intro be
  refine TL_y rfl rfl (Y_build rfl rfl) ?_
  refine TL_box rfl rfl rfl ?_
  intro b4
  refine TL_y rfl rfl (Y_assign rfl) ?_
  refine TL_nil ?_
  refine T_ret ?_
  exact RetG_1 (.inl rfl) rfl (ResV.tmp rfl) GivesTo.g (⟨b4, bt, be, rfl, rfl⟩)
theorem sealNew_spec (L : List HP) : Fn Try.prog 17 #[] L (fun v L' => ∃ b, v = .pointer (some ⟨b, 0, none⟩) ∧ L' = sm b ⟨[], 0⟩ :: L) :=
  (sealNew0_spec L).mono fun v L' ⟨b, bt, be, h1, h2⟩ => by
    subst h2
    exact ⟨_, (osl_nil ordR 29 none _).trans (sm_close b (A := none) (c := 0) (os := []) (dn := 0) (bt := bt) (be := be) ⟨by simp, fun t => by simp [getM, tokI], fun c => by simp [getM, cntS]⟩), b, h1, rfl⟩
theorem sealMade_spec {L : List HP} {b : Nat} {s : SM} : Fn Try.prog 68 #[.pointer (some ⟨b, 0, none⟩)] (sm b s :: L) (fun v L' => v = .bool true ∧ L' = sm b s :: L) := by
  refine Fn_enter Try.func68 rfl rfl rfl rfl ?_
  refine T_sm fun p hi => ?_
  refine T_region ?_
  refine TL_y rfl rfl (Y_assign rfl) ?_
  refine TL_nil ?_
  refine T_region ?_
  refine TL_y rfl rfl (Y_move rfl) ?_
  refine TL_y rfl rfl (Y_unequal rfl rfl (EqIs.ptr_nil)) ?_
  refine TL_name 4 (v' := .bool true) rfl (by simp) ?_
  refine TL_y rfl rfl (Y_move rfl) ?_
  refine TL_grun rfl rfl ?_
  refine TL_y rfl rfl (Y_move rfl) ?_
  refine TL_grun rfl rfl ?_
  refine TL_y rfl rfl (Y_nil_check rfl) ?_
  refine TL_grun rfl rfl ?_
  refine TL_y rfl rfl (Y_field_addr rfl) ?_
  refine TL_grun rfl rfl ?_
  refine TL_y rfl rfl (Y_load rfl rfl) ?_
  refine TL_grun rfl rfl ?_
  refine TL_y rfl rfl (Y_unequal rfl rfl (EqIs.map_nil)) ?_
  refine TL_name 10 (v' := .bool true) rfl (by simp) ?_
  refine TL_y rfl rfl (Y_pick_t rfl rfl) ?_
  refine TL_y rfl rfl (Y_assign rfl) ?_
  refine TL_nil ?_
  refine T_ret ?_
  refine RetQ.gives (sm_shut b s hi) ?_
  exact RetG_1 (.inl rfl) rfl (ResV.tmp rfl) GivesTo.g (⟨rfl, rfl⟩)
theorem sealMade_nil (L : List HP) : Fn Try.prog 68 #[.pointer none] L (fun v L' => v = .bool false ∧ L' = L) := by
  refine Fn_enter Try.func68 rfl rfl rfl rfl ?_
  refine T_region ?_
  refine TL_y rfl rfl (Y_assign rfl) ?_
  refine TL_nil ?_
  refine T_region ?_
  refine TL_y rfl rfl (Y_move rfl) ?_
  refine TL_y rfl rfl (Y_unequal rfl rfl (EqIs.ptr_nil)) ?_
  refine TL_name 4 (v' := .bool false) rfl (by simp) ?_
  refine TL_y rfl rfl (Y_move rfl) ?_
  refine TL_gskip rfl rfl rfl rfl ?_
  refine TL_gskip rfl rfl rfl rfl ?_
  refine TL_gskip rfl rfl rfl rfl ?_
  refine TL_gskip rfl rfl rfl rfl ?_
  refine TL_gskip rfl rfl rfl rfl ?_
  refine TL_y rfl rfl (Y_pick_f rfl rfl) ?_
  refine TL_y rfl rfl (Y_assign rfl) ?_
  refine TL_nil ?_
  refine T_ret ?_
  exact RetG_1 (.inl rfl) rfl (ResV.tmp rfl) GivesTo.g (⟨rfl, rfl⟩)
theorem sealCopied_spec {L : List HP} {A : Option Addr} {c : Nat} (o : OrdD) (ho : ordOk o) (hk : SlK L (intR .i64) A c o.x.cut) : Fn Try.prog 70 #[ordV o (A, c)] L (fun v L' => ∃ A' c', v = ordV o (A', c') ∧ L' = sl (intR .i64) A' c' o.x.cut :: L) := by
  refine Fn_enter Try.func70 rfl rfl rfl rfl ?_
  refine T_region ?_
  refine TL_box rfl rfl rfl ?_
  intro b1
  refine TL_alloc rfl rfl ?_
  intro b2
  refine TL_nil ?_
  refine T_region ?_
  refine TL_y rfl rfl (Y_field_addr rfl) ?_
  refine TL_y rfl rfl (Y_load rfl rfl) ?_
  refine TL_call rfl rfl (clone_i64_spec hk.tail.tail ho.2.2.2.2) ?_
  rintro _ _ ⟨A5, c5, rfl, rfl⟩
  refine TL_freeze_osl ?_
  refine TL_y rfl rfl (Y_field_addr rfl) ?_
  refine TL_store rfl rfl rfl rfl rfl rfl ?_
  refine TL_nil ?_
  refine T_region ?_
  refine TL_y rfl rfl (Y_load_agg rfl rfl) ?_
  refine TL_store rfl rfl rfl rfl rfl rfl ?_
  refine TL_nil ?_
  refine T_ret ?_
  exact RetG_1 (.inl rfl) rfl (ResV.agg rfl rfl) GivesTo.g (⟨A5, c5, rfl, rfl⟩)
theorem cloneOrd_spec {L : List HP} {A : Option Addr} {c : Nat} {xs : List OrdD} (hk : SlN L ordR A c xs) (hb : xs.length ≤ 1048576) : Fn Try.prog 74 #[.slice A xs.length c] L (fun v L' => ∃ A' c', v = .slice A' xs.length c' ∧ L' = osl ordR 29 A' c' xs :: L) := by
  refine Fn_enter Try.func74 rfl rfl rfl rfl ?_
  refine T_region ?_
  refine TL_y rfl rfl (Y_assign rfl) ?_
  refine TL_nil ?_
  refine T_seq ?_
  refine T_region ?_
  refine TL_y rfl rfl (Y_move rfl) ?_
  refine TL_y rfl rfl (Y_equal rfl rfl (EqIs.slice_nil)) ?_
  refine TL_nil ?_
  refine T_if rfl (fun h4 => ?_) (fun h4 => ?_)
  · subst h4
    refine hk.none_nil (fun e => ?_)
    subst e
    refine T_onil (A := none) ordR 29 ?_
    refine T_region ?_
    refine TL_y rfl rfl (Y_assign rfl) ?_
    refine TL_nil ?_
    refine T_ret ?_
    refine thenS_ret ?_
    exact RetG_1 (.inl rfl) rfl (ResV.tmp rfl) GivesTo.g (⟨none, 0, rfl, rfl⟩)
  · refine T_skip ?_
    refine thenS_normal ?_
    refine T_region ?_
    refine TL_build_slice rfl rfl rfl rfl rfl rfl ?_
    intro b5
    refine TL_osl (k := 0) ordR [] (Knows.const fun M => rfl) rfl (by simp) ?_
    refine TL_name 5 (v' := .slice (some ⟨b5, 0, none⟩) ([] : List OrdD).length 0) rfl rfl ?_
    refine TL_y rfl rfl (Y_move rfl) ?_
    refine TL_append_n rfl rfl rfl rfl rfl hk (by simp only [List.length_nil]; omega) ?_
    intro A7 c7
    refine TL_y rfl rfl (Y_assign rfl) ?_
    refine TL_nil ?_
    refine T_ret ?_
    simp only [List.nil_append]
    exact RetG_1 (.inl rfl) rfl (ResV.tmp rfl) GivesTo.g (⟨A7, c7, rfl, rfl⟩)
theorem getS_some {os : List OrdD} {id : Int} {o : OrdD} (h : getS os id = some o) : 1 ≤ id ∧ id ≤ (os.length : Int) ∧ os[(id - 1).toNat]? = some o := by
  unfold getS at h
  split at h
  · rename_i h1; exact ⟨h1.1, h1.2, h⟩
  · cases h
theorem getS_none {os : List OrdD} {id : Int} (h : id < 1 ∨ id > (os.length : Int)) : getS os id = none := by
  unfold getS; rw [if_neg (by omega)]
theorem sealGet_spec {L : List HP} {b : Nat} {s : SM} (id : Int) (hid : intIn .i64 id) : Fn Try.prog 23 #[.pointer (some ⟨b, 0, none⟩), .int .i64 id] (sm b s :: L) (fun v L' => ∃ A c, v = .tuple #[ordV (orE (getS s.os id)) (A, c), .bool (getS s.os id).isSome] ∧ L' = sl (intR .i64) A c (orE (getS s.os id)).x.cut :: sm b s :: L) := by
  have hid := i64In hid
  refine Fn_enter Try.func23 rfl rfl rfl rfl ?_
  refine T_region ?_
  refine TL_alloc rfl rfl ?_
  intro b4
  refine TL_y rfl rfl (Y_assign rfl) ?_
  refine TL_nil ?_
  refine T_seq ?_
  refine T_region ?_
  refine TL_y rfl rfl (Y_move rfl) ?_
  refine TL_pullk b ?_
  refine TL_call rfl rfl (sealMade_spec) ?_
  rintro _ _ ⟨rfl, rfl⟩
  refine TL_name 7 (v' := .bool true) rfl (rfl) ?_
  refine TL_y rfl rfl (Y_not_t rfl) ?_
  refine TL_sm fun p hi => ?_
  refine TL_y rfl rfl (Y_move rfl) ?_
  refine TL_both 12 21 (id < 1 ∨ id > (s.os.length : Int)) ?_ ?_
  · refine TL_grun rfl rfl ?_
    refine TL_y rfl rfl (Y_move rfl) ?_
    refine TL_grun rfl rfl ?_
    refine TL_y rfl rfl (Y_lt rfl rfl) ?_
    refine TL_y rfl rfl (Y_pick_f rfl rfl) ?_
    refine TL_y rfl rfl (Y_move rfl) ?_
    refine TL_splitd 13 rfl (fun h13 => ?_) (fun h13 => ?_)
    · refine TL_gskip rfl rfl rfl rfl ?_
      refine TL_gskip rfl rfl rfl rfl ?_
      refine TL_gskip rfl rfl rfl rfl ?_
      refine TL_gskip rfl rfl rfl rfl ?_
      refine TL_gskip rfl rfl rfl rfl ?_
      refine TL_gskip rfl rfl rfl rfl ?_
      refine TL_gskip rfl rfl rfl rfl ?_
      refine TL_y rfl rfl (Y_pick_t rfl rfl) ?_
      refine TL_chain_end rfl ?_ (by repeat (first | exact sub_refl | refine sub_ext rfl ?_)) GivesTo.g
      exact congrArg Value.bool (decide_eq_true (by omega)).symm
    · refine TL_grun rfl rfl ?_
      refine TL_y rfl rfl (Y_move rfl) ?_
      refine TL_grun rfl rfl ?_
      refine TL_y rfl rfl (Y_move rfl) ?_
      refine TL_grun rfl rfl ?_
      refine TL_y rfl rfl (Y_nil_check rfl) ?_
      refine TL_grun rfl rfl ?_
      refine TL_y rfl rfl (Y_field_addr rfl) ?_
      refine TL_grun rfl rfl ?_
      refine TL_y rfl rfl (Y_load rfl rfl) ?_
      refine TL_grun rfl rfl ?_
      refine TL_y rfl rfl (Y_len rfl) ?_
      refine TL_grun rfl rfl ?_
      refine TL_y rfl rfl (Y_gt rfl rfl) ?_
      refine TL_y rfl rfl (Y_pick_f rfl rfl) ?_
      refine TL_chain_end rfl ?_ (by repeat (first | exact sub_refl | refine sub_ext rfl ?_)) GivesTo.g
      exact congrArg Value.bool (decide_eq_decide.2 (by omega))
  refine TL_nil ?_
  refine T_if rfl (fun h21 => ?_) (fun h21 => ?_)
  · have hn := getS_none h21
    refine T_region ?_
    refine TL_y rfl rfl (Y_build rfl rfl) ?_
    refine TL_store rfl rfl rfl rfl rfl rfl ?_
    refine TL_y rfl rfl (Y_assign rfl) ?_
    refine TL_nil ?_
    refine T_ret ?_
    refine thenS_ret ?_
    rw [hn, show orE none = ord0 from rfl]
    refine RetQ.gives (sm_shut b s hi) ?_
    refine RetQ.gives (slnil (A := none) (c := 0) (R := intR .i64)).lay ?_
    exact RetG_2 (.inl rfl) rfl (ResV.agg rfl rfl) (ResV.tmp rfl) GivesTo.g (⟨none, 0, rfl, rfl⟩)
  · refine T_skip ?_
    refine thenS_normal ?_
    refine T_region ?_
    refine TL_y rfl rfl (Y_move rfl) ?_
    refine TL_y rfl rfl (Y_nil_check rfl) ?_
    refine TL_y rfl rfl (Y_field_addr rfl) ?_
    refine TL_y rfl rfl (Y_load rfl rfl) ?_
    refine TL_y rfl rfl (Y_move rfl) ?_
    refine TL_y rfl rfl (Y_sub rfl rfl (by omega)) ?_
    have hlt : (id - 1).toNat < s.os.length := by omega
    obtain ⟨o, ho⟩ : ∃ o, s.os[(id - 1).toNat]? = some o := ⟨_, List.getElem?_eq_getElem hlt⟩
    have hg : getS s.os id = some o := by rw [getS, if_pos (by omega), ho]
    refine TL_name 28 (v' := .int .i64 (((id - 1).toNat : Nat) : Int)) rfl (by congr 1; omega) ?_
    refine TL_index_n rfl rfl rfl (rfl) (sln) (ho) ?_
    intro bn29 on29 hA29 hk29
    have hu29 := ho
    refine TL_load_nx rfl rfl hk29 hu29 (fun _ => rfl) ?_
    intro p30 ok30
    simp only [List.cons_append, List.nil_append]
    refine TL_call rfl rfl (sealCopied_spec o ok30 slk) ?_
    rintro _ _ ⟨A31, c31, rfl, rfl⟩
    refine TL_store rfl rfl rfl rfl rfl rfl ?_
    refine TL_y rfl rfl (Y_assign rfl) ?_
    refine TL_nil ?_
    refine T_ret ?_
    rw [hg, show orE (some o) = o from rfl]
    refine RetQ.gives (sm_shut b s hi) ?_
    exact RetG_2 (.inl rfl) rfl (ResV.agg rfl rfl) (ResV.tmp rfl) GivesTo.g (⟨A31, c31, rfl, rfl⟩)
theorem sealGet_nil (L : List HP) (id : Int) : Fn Try.prog 23 #[.pointer none, .int .i64 id] L (fun v L' => v = .tuple #[ordV ord0 (none, 0), .bool false] ∧ L' = L) := by
  refine Fn_enter Try.func23 rfl rfl rfl rfl ?_
  refine T_region ?_
  refine TL_alloc rfl rfl ?_
  intro b4
  refine TL_y rfl rfl (Y_assign rfl) ?_
  refine TL_nil ?_
  refine T_seq ?_
  refine T_region ?_
  refine TL_y rfl rfl (Y_move rfl) ?_
  refine TL_call rfl rfl (sealMade_nil _) ?_
  rintro _ _ ⟨rfl, rfl⟩
  refine TL_name 7 (v' := .bool false) rfl (rfl) ?_
  refine TL_y rfl rfl (Y_not_f rfl) ?_
  refine TL_y rfl rfl (Y_move rfl) ?_
  refine TL_gskip rfl rfl rfl rfl ?_
  refine TL_gskip rfl rfl rfl rfl ?_
  refine TL_y rfl rfl (Y_pick_t rfl rfl) ?_
  refine TL_y rfl rfl (Y_move rfl) ?_
  refine TL_gskip rfl rfl rfl rfl ?_
  refine TL_gskip rfl rfl rfl rfl ?_
  refine TL_gskip rfl rfl rfl rfl ?_
  refine TL_gskip rfl rfl rfl rfl ?_
  refine TL_gskip rfl rfl rfl rfl ?_
  refine TL_gskip rfl rfl rfl rfl ?_
  refine TL_gskip rfl rfl rfl rfl ?_
  refine TL_y rfl rfl (Y_pick_t rfl rfl) ?_
  refine TL_nil ?_
  refine T_cond_true rfl ?_
  refine T_region ?_
  refine TL_y rfl rfl (Y_build rfl rfl) ?_
  refine TL_store rfl rfl rfl rfl rfl rfl ?_
  refine TL_y rfl rfl (Y_assign rfl) ?_
  refine TL_nil ?_
  refine T_ret ?_
  refine thenS_ret ?_
  exact RetG_2 (.inl rfl) rfl (ResV.agg rfl rfl) (ResV.tmp rfl) GivesTo.g (⟨rfl, rfl⟩)
theorem sealToken_spec {L : List HP} {b : Nat} {s : SM} (t : ByteArray) (ht : t.size ≤ maxEl) : Fn Try.prog 21 #[.pointer (some ⟨b, 0, none⟩), .string t] (sm b s :: L) (fun v L' => ∃ A c, v = .tuple #[ordV (orE (tokS s.os t)) (A, c), .bool (tokS s.os t).isSome] ∧ L' = sl (intR .i64) A c (orE (tokS s.os t)).x.cut :: sm b s :: L) := by
  refine Fn_enter Try.func21 rfl rfl rfl rfl ?_
  refine T_region ?_
  refine TL_alloc rfl rfl ?_
  intro b4
  refine TL_y rfl rfl (Y_assign rfl) ?_
  refine TL_nil ?_
  refine T_seq ?_
  refine T_region ?_
  refine TL_y rfl rfl (Y_move rfl) ?_
  refine TL_pullk b ?_
  refine TL_call rfl rfl (sealMade_spec) ?_
  rintro _ _ ⟨rfl, rfl⟩
  refine TL_name 7 (v' := .bool true) rfl (rfl) ?_
  refine TL_y rfl rfl (Y_not_t rfl) ?_
  refine TL_nil ?_
  refine T_cond_false rfl ?_
  refine T_skip ?_
  refine thenS_normal ?_
  refine T_region ?_
  refine TL_sm fun p hi => ?_
  refine TL_y rfl rfl (Y_move rfl) ?_
  refine TL_y rfl rfl (Y_move rfl) ?_
  refine TL_y rfl rfl (Y_nil_check rfl) ?_
  refine TL_y rfl rfl (Y_field_addr rfl) ?_
  refine TL_y rfl rfl (Y_load rfl rfl) ?_
  refine TL_y rfl rfl (Y_move rfl) ?_
  refine TL_y rfl rfl (Y_lookup (k := t) rfl rfl ht) ?_
  refine TL_name 16 (v' := .int .i64 (tokI s.os t : Int)) rfl (by have := hi.2.1 t; cases e : getM p.tk t <;> rw [e] at this <;> simp at this <;> simp [lookV, this]) ?_
  refine TL_gives (sm_shut b s hi) ?_
  have hti : tokI s.os t ≤ s.os.length := by unfold tokI; split; (rename_i h; have := (List.findIdx?_eq_some_iff_getElem.1 h).1; omega); omega
  refine TL_pullk b ?_
  refine TL_call rfl rfl (sealGet_spec (tokI s.os t : Int) (i64In_mk (by have := hi.1; omega))) ?_
  rintro _ _ ⟨A17, c17, rfl, rfl⟩
  refine TL_y rfl rfl (Y_extract rfl rfl) ?_
  refine TL_y rfl rfl (Y_extract rfl rfl) ?_
  refine TL_store rfl rfl rfl rfl rfl rfl ?_
  refine TL_y rfl rfl (Y_assign rfl) ?_
  refine TL_nil ?_
  refine T_ret ?_
  rw [tokS_get]
  exact RetG_2 (.inl rfl) rfl (ResV.agg rfl rfl) (ResV.tmp rfl) GivesTo.g (⟨A17, c17, rfl, rfl⟩)
theorem sealToken_nil (L : List HP) (t : ByteArray) : Fn Try.prog 21 #[.pointer none, .string t] L (fun v L' => v = .tuple #[ordV ord0 (none, 0), .bool false] ∧ L' = L) := by
  refine Fn_enter Try.func21 rfl rfl rfl rfl ?_
  refine T_region ?_
  refine TL_alloc rfl rfl ?_
  intro b4
  refine TL_y rfl rfl (Y_assign rfl) ?_
  refine TL_nil ?_
  refine T_seq ?_
  refine T_region ?_
  refine TL_y rfl rfl (Y_move rfl) ?_
  refine TL_call rfl rfl (sealMade_nil _) ?_
  rintro _ _ ⟨rfl, rfl⟩
  refine TL_name 7 (v' := .bool false) rfl (rfl) ?_
  refine TL_y rfl rfl (Y_not_f rfl) ?_
  refine TL_nil ?_
  refine T_cond_true rfl ?_
  refine T_region ?_
  refine TL_y rfl rfl (Y_build rfl rfl) ?_
  refine TL_store rfl rfl rfl rfl rfl rfl ?_
  refine TL_y rfl rfl (Y_assign rfl) ?_
  refine TL_nil ?_
  refine T_ret ?_
  refine thenS_ret ?_
  exact RetG_2 (.inl rfl) rfl (ResV.agg rfl rfl) (ResV.tmp rfl) GivesTo.g (⟨rfl, rfl⟩)
theorem sealEpoch_spec {L : List HP} {b : Nat} {s : SM} (t : ByteArray) (ht : t.size ≤ maxEl) : Fn Try.prog 24 #[.pointer (some ⟨b, 0, none⟩), .string t] (sm b s :: L) (fun v L' => v = .int .i64 (cntS s.os t : Int) ∧ L' = sm b s :: L) := by
  refine Fn_enter Try.func24 rfl rfl rfl rfl ?_
  refine T_region ?_
  refine TL_y rfl rfl (Y_assign rfl) ?_
  refine TL_nil ?_
  refine T_seq ?_
  refine T_region ?_
  refine TL_y rfl rfl (Y_move rfl) ?_
  refine TL_pullk b ?_
  refine TL_call rfl rfl (sealMade_spec) ?_
  rintro _ _ ⟨rfl, rfl⟩
  refine TL_name 6 (v' := .bool true) rfl (rfl) ?_
  refine TL_y rfl rfl (Y_not_t rfl) ?_
  refine TL_nil ?_
  refine T_cond_false rfl ?_
  refine T_skip ?_
  refine thenS_normal ?_
  refine T_region ?_
  refine TL_sm fun p hi => ?_
  refine TL_y rfl rfl (Y_move rfl) ?_
  refine TL_y rfl rfl (Y_nil_check rfl) ?_
  refine TL_y rfl rfl (Y_field_addr rfl) ?_
  refine TL_y rfl rfl (Y_load rfl rfl) ?_
  refine TL_y rfl rfl (Y_move rfl) ?_
  refine TL_y rfl rfl (Y_lookup (k := t) rfl rfl ht) ?_
  refine TL_name 13 (v' := .int .i64 (cntS s.os t : Int)) rfl (by have := hi.2.2 t; cases e : getM p.ep t <;> rw [e] at this <;> simp at this <;> simp [lookV, this]) ?_
  refine TL_y rfl rfl (Y_assign rfl) ?_
  refine TL_nil ?_
  refine T_ret ?_
  refine RetQ.gives (sm_shut b s hi) ?_
  exact RetG_1 (.inl rfl) rfl (ResV.tmp rfl) GivesTo.g (⟨rfl, rfl⟩)
theorem sealEpoch_nil (L : List HP) (t : ByteArray) : Fn Try.prog 24 #[.pointer none, .string t] L (fun v L' => v = .int .i64 0 ∧ L' = L) := by
  refine Fn_enter Try.func24 rfl rfl rfl rfl ?_
  refine T_region ?_
  refine TL_y rfl rfl (Y_assign rfl) ?_
  refine TL_nil ?_
  refine T_seq ?_
  refine T_region ?_
  refine TL_y rfl rfl (Y_move rfl) ?_
  refine TL_call rfl rfl (sealMade_nil _) ?_
  rintro _ _ ⟨rfl, rfl⟩
  refine TL_name 6 (v' := .bool false) rfl (rfl) ?_
  refine TL_y rfl rfl (Y_not_f rfl) ?_
  refine TL_nil ?_
  refine T_cond_true rfl ?_
  refine T_region ?_
  refine TL_y rfl rfl (Y_assign rfl) ?_
  refine TL_nil ?_
  refine T_ret ?_
  refine thenS_ret ?_
  exact RetG_1 (.inl rfl) rfl (ResV.tmp rfl) GivesTo.g (⟨rfl, rfl⟩)
theorem sealDone_spec {L : List HP} {b : Nat} {s : SM} : Fn Try.prog 25 #[.pointer (some ⟨b, 0, none⟩)] (sm b s :: L) (fun v L' => v = .int .i64 s.dn ∧ L' = sm b s :: L) := by
  refine Fn_enter Try.func25 rfl rfl rfl rfl ?_
  refine T_region ?_
  refine TL_y rfl rfl (Y_assign rfl) ?_
  refine TL_nil ?_
  refine T_seq ?_
  refine T_region ?_
  refine TL_y rfl rfl (Y_move rfl) ?_
  refine TL_pullk b ?_
  refine TL_call rfl rfl (sealMade_spec) ?_
  rintro _ _ ⟨rfl, rfl⟩
  refine TL_name 4 (v' := .bool true) rfl (rfl) ?_
  refine TL_y rfl rfl (Y_not_t rfl) ?_
  refine TL_nil ?_
  refine T_cond_false rfl ?_
  refine T_skip ?_
  refine thenS_normal ?_
  refine T_region ?_
  refine TL_sm fun p hi => ?_
  refine TL_y rfl rfl (Y_move rfl) ?_
  refine TL_y rfl rfl (Y_nil_check rfl) ?_
  refine TL_y rfl rfl (Y_field_addr rfl) ?_
  refine TL_y rfl rfl (Y_load rfl rfl) ?_
  refine TL_y rfl rfl (Y_assign rfl) ?_
  refine TL_nil ?_
  refine T_ret ?_
  refine RetQ.gives (sm_shut b s hi) ?_
  exact RetG_1 (.inl rfl) rfl (ResV.tmp rfl) GivesTo.g (⟨rfl, rfl⟩)
theorem sealDone_nil (L : List HP) : Fn Try.prog 25 #[.pointer none] L (fun v L' => v = .int .i64 0 ∧ L' = L) := by
  refine Fn_enter Try.func25 rfl rfl rfl rfl ?_
  refine T_region ?_
  refine TL_y rfl rfl (Y_assign rfl) ?_
  refine TL_nil ?_
  refine T_seq ?_
  refine T_region ?_
  refine TL_y rfl rfl (Y_move rfl) ?_
  refine TL_call rfl rfl (sealMade_nil _) ?_
  rintro _ _ ⟨rfl, rfl⟩
  refine TL_name 4 (v' := .bool false) rfl (rfl) ?_
  refine TL_y rfl rfl (Y_not_f rfl) ?_
  refine TL_nil ?_
  refine T_cond_true rfl ?_
  refine T_region ?_
  refine TL_y rfl rfl (Y_assign rfl) ?_
  refine TL_nil ?_
  refine T_ret ?_
  refine thenS_ret ?_
  exact RetG_1 (.inl rfl) rfl (ResV.tmp rfl) GivesTo.g (⟨rfl, rfl⟩)
end Go.SL
