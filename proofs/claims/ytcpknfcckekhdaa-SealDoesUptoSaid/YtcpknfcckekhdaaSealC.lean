/- Seal: the walks of the machine's greater functions. -/
import Derived.Test.YtcpknfcckekhdaaSealB
set_option linter.unusedVariables false
set_option linter.unusedSimpArgs false
namespace Go.SL
open Go Go.Proofs
theorem cells_one {α : Type} {R : Rep α} {x : α} {l : List Value} {L : List HP} (h : Knows L (fun M => R.rep M x l)) : Knows L (fun M => CellsOf M R [x] l) := h.mono fun M h => ⟨l, [], h, rfl, by simp⟩
theorem ord_rep {L : List HP} {A : Option Addr} {c : Nat} {o : OrdD} (hk : SlK L (intR .i64) A c o.x.cut) (ho : ordOk o) : Knows L (fun M => ordR.rep M o (ordC o (A, c))) := ex_rep (A, c) (sep_sl hk) ho
theorem order_rep {L : List HP} {A : Option Addr} {c : Nat} {o : OrderD} (hk : SlK L (intR .i64) A c o.cut) (ho : orderOk' o) : Knows L (fun M => orderR.rep M o (orderC o (A, c))) := ex_rep (A, c) (sep_sl hk) ho
structure LpSt where
  i : Nat
  A : Option Addr
  c : Nat
theorem sealOrders_spec {L : List HP} {b : Nat} {s : SM} : Fn Try.prog 20 #[.pointer (some ⟨b, 0, none⟩)] (sm b s :: L) (fun v L' => ∃ A c, v = .slice A s.os.length c ∧ s.os.length ≤ 65536 ∧ L' = osl ordR 29 A c s.os :: sm b s :: L) := by
  refine Fn_enter Try.func20 rfl rfl rfl rfl ?_
  refine T_region ?_
  refine TL_y rfl rfl (Y_assign rfl) ?_
  refine TL_nil ?_
  refine T_seq ?_
  refine T_region ?_
  refine TL_y rfl rfl (Y_move rfl) ?_
  refine TL_pullk b ?_
  refine TL_call rfl rfl (sealMade_spec) ?_
  rintro _ _ ⟨rfl, rfl⟩
  refine TL_name 7 (v' := .bool true) rfl (rfl) ?_
  refine TL_y rfl rfl (Y_not_t rfl) ?_
  refine TL_nil ?_
  refine T_cond_false rfl ?_
  refine T_skip ?_
  refine thenS_normal ?_
  refine T_region ?_
  refine TL_y rfl rfl (Y_assign rfl) ?_
  refine TL_nil ?_
  refine T_seq ?_
  refine T_region ?_
  refine TL_sm fun p hi => ?_
  refine TL_y rfl rfl (Y_move rfl) ?_
  have hi65 := hi.1
  refine TL_y rfl rfl (Y_nil_check rfl) ?_
  refine TL_y rfl rfl (Y_field_addr rfl) ?_
  refine TL_y rfl rfl (Y_load rfl rfl) ?_
  refine TL_y rfl rfl (Y_len rfl) ?_
  refine TL_y rfl rfl (Y_move rfl) ?_
  refine TL_nil ?_
  refine T_block ?_
  refine T_loopK (σ := LpSt) [12, 13] (fun g => g.i ≤ s.os.length) (fun g kv => (14, .int .i64 (g.i : Int)) :: (3, .slice g.A (s.os.take g.i).length g.c) :: kv) (fun g => osl ordR 29 g.A g.c (s.os.take g.i) :: cells b [.slice p.A s.os.length p.c, .map (some p.bt), .map (some p.be), .int .i64 s.dn] 113 :: osl ordR 29 p.A p.c s.os :: omap strK (intR .i64) false p.bt p.tk :: omap strK (intR .i64) false p.be p.ep :: L) (fun g => s.os.length - g.i) (⟨0, none, 0⟩) rfl (Nat.zero_le _) (osl_nil _ _ _ _) (sub_cons rfl (sub_cons rfl (sub_cons rfl (sub_cons rfl (sub_nil))))) ?_
  rintro ⟨i, A, c⟩ hi2
  dsimp only at hi2 ⊢
  refine T_region ?_
  refine TL_y rfl rfl (Y_lt rfl rfl) ?_
  refine TL_nil ?_
  refine T_seq ?_
  refine T_if rfl (fun h15 => ?_) (fun h15 => ?_)
  · refine T_skip ?_
    refine thenS_normal ?_
    refine T_seq ?_
    refine T_block ?_
    refine T_region ?_
    obtain ⟨o, ho⟩ : ∃ o, s.os[i]? = some o := ⟨_, List.getElem?_eq_getElem (by omega)⟩
    have htk := take_at ho
    refine TL_index_n rfl rfl rfl (rfl) (SlN.tail (SlN.tail osl_n)) (ho) ?_
    intro bn16 on16 hA16 hk16
    have hu16 := ho
    refine TL_load_nx rfl rfl hk16 hu16 (fun _ => rfl) ?_
    intro p17 ok17
    simp only [List.cons_append, List.nil_append]
    refine TL_alloc rfl rfl ?_
    intro b5
    refine TL_store rfl rfl rfl rfl rfl rfl ?_
    refine TL_nil ?_
    refine T_region_last ?_
    refine TL_y rfl rfl (Y_move rfl) ?_
    refine TL_y rfl rfl (Y_load_agg rfl rfl) ?_
    refine TL_call rfl rfl (sealCopied_spec o ok17 slk) ?_
    rintro _ _ ⟨A20, c20, rfl, rfl⟩
    refine TL_build_slice rfl rfl rfl rfl rfl rfl ?_
    intro b21
    refine TL_osl (k := 1) ordR [o] (cells_one (ord_rep slk ok17)) rfl (by decide) ?_
    refine TL_freeze_osl ?_
    refine TL_name 21 (v' := .slice (some ⟨b21, 0, none⟩) [o].length 1) rfl rfl ?_
    refine TL_append rfl rfl rfl rfl rfl slk (by simp only [List.length_take, List.length_cons, List.length_nil]; omega) ?_
    intro A22 c22
    rw [← htk]
    refine TL_y rfl rfl (Y_assign rfl) ?_
    refine TL_nil ?_
    refine inB_normal ?_
    refine thenS_normal ?_
    refine T_region_last ?_
    refine TL_y rfl rfl (Y_add rfl rfl (by omega)) ?_
    refine TL_name 23 (v' := .int .i64 ((i + 1 : Nat) : Int)) rfl (rfl) ?_
    refine TL_y rfl rfl (Y_move rfl) ?_
    refine TL_nil ?_
    refine thenS_normal ?_
    exact ⟨⟨i + 1, A22, c22⟩, (by simp only; omega), by simp only; omega, holds_to (sub_cons rfl (sub_cons rfl (sub_cons rfl (sub_cons rfl (sub_nil))))) GivesTo.g⟩
  · refine T_exit ?_
    refine thenS_exit ?_
    refine thenS_exit ?_
    refine inB_hit ?_
    refine thenS_normal ?_
    refine T_region ?_
    refine TL_y rfl rfl (Y_move rfl) ?_
    refine TL_y rfl rfl (Y_assign rfl) ?_
    refine TL_nil ?_
    refine T_ret ?_
    have e : s.os.take i = s.os := List.take_of_length_le (by omega)
    rw [e]
    refine RetQ.gives (sm_shut b s hi) ?_
    exact RetG_1 (.inl rfl) rfl (ResV.tmp rfl) GivesTo.g (⟨A, c, rfl, hi.1, rfl⟩)
theorem sealOrders_nil (L : List HP) : Fn Try.prog 20 #[.pointer none] L (fun v L' => v = .slice none 0 0 ∧ L' = L) := by
  refine Fn_enter Try.func20 rfl rfl rfl rfl ?_
  refine T_region ?_
  refine TL_y rfl rfl (Y_assign rfl) ?_
  refine TL_nil ?_
  refine T_seq ?_
  refine T_region ?_
  refine TL_y rfl rfl (Y_move rfl) ?_
  refine TL_call rfl rfl (sealMade_nil _) ?_
  rintro _ _ ⟨rfl, rfl⟩
  refine TL_name 7 (v' := .bool false) rfl (rfl) ?_
  refine TL_y rfl rfl (Y_not_f rfl) ?_
  refine TL_nil ?_
  refine T_cond_true rfl ?_
  refine T_region ?_
  refine TL_y rfl rfl (Y_assign rfl) ?_
  refine TL_nil ?_
  refine T_ret ?_
  refine thenS_ret ?_
  exact RetG_1 (.inl rfl) rfl (ResV.tmp rfl) GivesTo.g (⟨rfl, rfl⟩)
theorem sealSeals_spec {L : List HP} {b : Nat} {s : SM} : Fn Try.prog 27 #[.pointer (some ⟨b, 0, none⟩)] (sm b s :: L) (fun v L' => ∃ A c, v = .slice A (s.os.map (·.x)).length c ∧ s.os.length ≤ 65536 ∧ L' = osl orderR 34 A c (s.os.map (·.x)) :: sm b s :: L) := by
  refine Fn_enter Try.func27 rfl rfl rfl rfl ?_
  refine T_region ?_
  refine TL_y rfl rfl (Y_assign rfl) ?_
  refine TL_nil ?_
  refine T_region ?_
  refine TL_y rfl rfl (Y_assign rfl) ?_
  refine TL_nil ?_
  refine T_seq ?_
  refine T_region ?_
  refine TL_y rfl rfl (Y_move rfl) ?_
  refine TL_call rfl rfl (sealOrders_spec) ?_
  rintro _ _ ⟨A7, c7, rfl, hi65, rfl⟩
  refine TL_y rfl rfl (Y_len rfl) ?_
  refine TL_y rfl rfl (Y_move rfl) ?_
  refine TL_nil ?_
  refine T_block ?_
  refine T_loopK (σ := LpSt) [7, 8] (fun g => g.i ≤ s.os.length) (fun g kv => (9, .int .i64 (g.i : Int)) :: (3, .slice g.A ((s.os.take g.i).map (·.x)).length g.c) :: kv) (fun g => osl orderR 34 g.A g.c ((s.os.take g.i).map (·.x)) :: osl ordR 29 A7 c7 s.os :: sm b s :: L) (fun g => s.os.length - g.i) (⟨0, none, 0⟩) rfl (Nat.zero_le _) (osl_nil _ _ _ _) (sub_cons rfl (sub_cons rfl (sub_cons rfl (sub_cons rfl (sub_nil))))) ?_
  rintro ⟨i, A, c⟩ hi2
  dsimp only at hi2 ⊢
  refine T_region ?_
  refine TL_y rfl rfl (Y_lt rfl rfl) ?_
  refine TL_nil ?_
  refine T_seq ?_
  refine T_if rfl (fun h10 => ?_) (fun h10 => ?_)
  · refine T_skip ?_
    refine thenS_normal ?_
    refine T_seq ?_
    refine T_block ?_
    refine T_region ?_
    obtain ⟨o, ho⟩ : ∃ o, s.os[i]? = some o := ⟨_, List.getElem?_eq_getElem (by omega)⟩
    have htk := take_at ho
    refine TL_index_n rfl rfl rfl (rfl) (SlN.tail osl_n) (ho) ?_
    intro bn11 on11 hA11 hk11
    have hu11 := ho
    refine TL_load_nx rfl rfl hk11 hu11 (fun _ => rfl) ?_
    intro p12 ok12
    simp only [List.cons_append, List.nil_append]
    refine TL_alloc rfl rfl ?_
    intro b5
    refine TL_store rfl rfl rfl rfl rfl rfl ?_
    refine TL_nil ?_
    refine T_region_last ?_
    refine TL_y rfl rfl (Y_move rfl) ?_
    refine TL_y rfl rfl (Y_field_addr rfl) ?_
    refine TL_y rfl rfl (Y_load rfl rfl) ?_
    refine TL_y rfl rfl (Y_field_addr rfl) ?_
    refine TL_y rfl rfl (Y_load rfl rfl) ?_
    refine TL_y rfl rfl (Y_field_addr rfl) ?_
    refine TL_y rfl rfl (Y_load rfl rfl) ?_
    refine TL_y rfl rfl (Y_field_addr rfl) ?_
    refine TL_y rfl rfl (Y_load rfl rfl) ?_
    refine TL_y rfl rfl (Y_build rfl rfl) ?_
    refine TL_build_slice rfl rfl rfl rfl rfl rfl ?_
    intro b23
    refine TL_osl (k := 1) orderR [o.x] (cells_one (order_rep slk ok12.2)) rfl (by decide) ?_
    refine TL_freeze_osl ?_
    refine TL_name 23 (v' := .slice (some ⟨b23, 0, none⟩) [o.x].length 1) rfl rfl ?_
    refine TL_append rfl rfl rfl rfl rfl slk (by simp only [List.length_map, List.length_take, List.length_cons, List.length_nil]; omega) ?_
    intro A24 c24
    rw [show (s.os.take i).map (·.x) ++ [o.x] = (s.os.take (i + 1)).map (·.x) by rw [htk]; simp]
    refine TL_y rfl rfl (Y_assign rfl) ?_
    refine TL_nil ?_
    refine inB_normal ?_
    refine thenS_normal ?_
    refine T_region_last ?_
    refine TL_y rfl rfl (Y_add rfl rfl (by omega)) ?_
    refine TL_name 25 (v' := .int .i64 ((i + 1 : Nat) : Int)) rfl (rfl) ?_
    refine TL_y rfl rfl (Y_move rfl) ?_
    refine TL_nil ?_
    refine thenS_normal ?_
    exact ⟨⟨i + 1, A24, c24⟩, (by simp only; omega), by simp only; omega, holds_to (sub_cons rfl (sub_cons rfl (sub_cons rfl (sub_cons rfl (sub_nil))))) GivesTo.g⟩
  · refine T_exit ?_
    refine thenS_exit ?_
    refine thenS_exit ?_
    refine inB_hit ?_
    refine thenS_normal ?_
    refine T_region ?_
    refine TL_y rfl rfl (Y_move rfl) ?_
    refine TL_y rfl rfl (Y_assign rfl) ?_
    refine TL_nil ?_
    refine T_ret ?_
    have e : s.os.take i = s.os := List.take_of_length_le (by omega)
    rw [e]
    exact RetG_1 (.inl rfl) rfl (ResV.tmp rfl) GivesTo.g (⟨A, c, rfl, hi65, rfl⟩)
theorem sealSeals_nil (L : List HP) : Fn Try.prog 27 #[.pointer none] L (fun v L' => v = .slice none 0 0 ∧ L' = L) := by
  refine Fn_enter Try.func27 rfl rfl rfl rfl ?_
  refine T_region ?_
  refine TL_y rfl rfl (Y_assign rfl) ?_
  refine TL_nil ?_
  refine T_region ?_
  refine TL_y rfl rfl (Y_assign rfl) ?_
  refine TL_nil ?_
  refine T_seq ?_
  refine T_region ?_
  refine TL_y rfl rfl (Y_move rfl) ?_
  refine TL_call rfl rfl (sealOrders_nil _) ?_
  rintro _ L1 ⟨rfl, hL⟩
  have hL := hL.symm
  subst hL
  refine TL_y rfl rfl (Y_len rfl) ?_
  refine TL_y rfl rfl (Y_move rfl) ?_
  refine TL_nil ?_
  refine T_block ?_
  refine T_loopK (σ := Unit) [7, 8] (fun g => True) (fun g kv => (9, .int .i64 0) :: (3, .slice none 0 0) :: kv) (fun g => L) (fun g => 0) (()) rfl (trivial) (GivesTo.g) (sub_cons rfl (sub_cons rfl (sub_cons rfl (sub_cons rfl (sub_nil))))) ?_
  intro g hg
  refine T_region ?_
  refine TL_y rfl rfl (Y_lt rfl rfl) ?_
  refine TL_name 10 (v' := .bool false) rfl (congrArg Value.bool (by decide)) ?_
  refine TL_nil ?_
  refine T_seq ?_
  refine T_cond_false rfl ?_
  refine T_exit ?_
  refine thenS_exit ?_
  refine thenS_exit ?_
  refine inB_hit ?_
  refine thenS_normal ?_
  refine T_region ?_
  refine TL_y rfl rfl (Y_move rfl) ?_
  refine TL_y rfl rfl (Y_assign rfl) ?_
  refine TL_nil ?_
  refine T_ret ?_
  exact RetG_1 (.inl rfl) rfl (ResV.tmp rfl) GivesTo.g (⟨rfl, rfl⟩)
theorem sealFork_spec {L : List HP} {b : Nat} {s : SM} : Fn Try.prog 30 #[.pointer (some ⟨b, 0, none⟩)] (sm b s :: L) (fun v L' => ∃ b2, v = .pointer (some ⟨b2, 0, none⟩) ∧ L' = sm b2 s :: sm b s :: L) := by
  refine Fn_enter Try.func30 rfl rfl rfl rfl ?_
  refine T_region ?_
  refine TL_y rfl rfl (Y_assign rfl) ?_
  refine TL_nil ?_
  refine T_seq ?_
  refine T_region ?_
  refine TL_y rfl rfl (Y_move rfl) ?_
  refine TL_pullk b ?_
  refine TL_call rfl rfl (sealMade_spec) ?_
  rintro _ _ ⟨rfl, rfl⟩
  refine TL_name 9 (v' := .bool true) rfl (rfl) ?_
  refine TL_y rfl rfl (Y_not_t rfl) ?_
  refine TL_nil ?_
  refine T_cond_false rfl ?_
  refine T_skip ?_
  refine thenS_normal ?_
  refine T_region ?_
  refine TL_call rfl rfl (sealNew0_spec _) ?_
  rintro _ _ ⟨b2, bt2, be2, rfl, rfl⟩
  refine TL_y rfl rfl (Y_assign rfl) ?_
  refine TL_nil ?_
  refine T_pullk b ?_
  refine T_sm fun p hi => ?_
  have hi65 := hi.1
  refine T_region_draw (cells b [.slice p.A s.os.length p.c, .map (some p.bt), .map (some p.be), .int .i64 s.dn] 113 :: []) [0, 0, 0, 4, 12, 28, 60, 0, 128, 384, 896, 2045, 4093, 8189, 16383, 32767, 65535] [] [(0, true), (1, true), (2, true), (3, true), (4, true), (5, true), (7, true), (8, true), (9, true), (10, true), (6, false), (11, true), (12, true), (13, false), (14, true), (15, true), (16, false)] (by kernel_rfl) (by decide +kernel) GivesTo.g ?_
  refine TF_y rfl rfl (Y_move rfl) ?_
  refine TF_y rfl rfl (Y_move rfl) ?_
  refine TF_y rfl rfl (Y_move rfl) ?_
  refine TF_y rfl rfl (Y_nil_check rfl) ?_
  refine TF_y rfl rfl (Y_field_addr rfl) ?_
  refine TF_y rfl rfl (Y_load rfl rfl) ?_
  refine TF_y rfl rfl (Y_move rfl) ?_
  refine TF_y rfl rfl (Y_nil_check rfl) ?_
  refine TF_y rfl rfl (Y_field_addr rfl) ?_
  refine TF_y rfl rfl (Y_load rfl rfl) ?_
  refine TF_anchor rfl ?_
  refine TL_call rfl rfl (cloneOrd_spec (SlN.tail osl_n) (by omega)) ?_
  rintro _ _ ⟨A18, c18, rfl, rfl⟩
  refine TF_end GivesTo.g ?_
  refine TF_y rfl rfl (Y_nil_check rfl) ?_
  refine TF_y rfl rfl (Y_field_addr rfl) ?_
  refine TF_anchor rfl ?_
  refine TL_store rfl rfl rfl rfl rfl rfl ?_
  refine TF_end GivesTo.g ?_
  refine TF_y rfl rfl (Y_nil_check rfl) ?_
  refine TF_y rfl rfl (Y_field_addr rfl) ?_
  refine TF_anchor rfl ?_
  refine TL_store rfl rfl rfl rfl rfl rfl ?_
  refine TF_end GivesTo.g ?_
  refine TF_nil ?_
  refine T_seq ?_
  refine T_region ?_
  refine TL_y rfl rfl (Y_move rfl) ?_
  refine TL_y rfl rfl (Y_nil_check rfl) ?_
  refine TL_y rfl rfl (Y_field_addr rfl) ?_
  refine TL_y rfl rfl (Y_load rfl rfl) ?_
  refine TL_range rfl rfl ?_
  intro it31
  refine TL_nil ?_
  refine T_block ?_
  refine T_loopK (σ := List (ByteArray × Int)) [0, 3, 31] (fun done => True) (fun done kv => kv) (fun done => cells b2 [.slice A18 s.os.length c18, .map (some bt2), .map (some be2), .int .i64 s.dn] 113 :: osl ordR 29 A18 c18 s.os :: omap strK (intR .i64) false bt2 done :: omap strK (intR .i64) false be2 [] :: mrange strK (intR .i64) false p.bt it31 p.tk done :: cells b [.slice p.A s.os.length p.c, .map (some p.bt), .map (some p.be), .int .i64 s.dn] 113 :: osl ordR 29 p.A p.c s.os :: omap strK (intR .i64) false p.be p.ep :: L) (fun done => p.tk.length - done.length) ([]) rfl (trivial) (GivesTo.g) (sub_cons rfl (sub_cons rfl (sub_cons rfl (sub_nil)))) ?_
  intro done hdone
  refine T_region ?_
  refine TL_next rfl rfl (fun hp => ?_) (fun q1 cs1 hq hd1 hlt => ?_)
  · refine TL_y rfl rfl (Y_extract rfl rfl) ?_
    refine TL_name 33 (v' := .bool false) rfl (rfl) ?_
    refine TL_nil ?_
    refine T_seq ?_
    refine T_cond_false rfl ?_
    refine T_exit ?_
    refine thenS_exit ?_
    refine thenS_exit ?_
    refine inB_hit ?_
    refine thenS_normal ?_
    refine T_seq ?_
    refine T_mperm bt2 hp ?_
    refine T_endrange it31 ?_
    refine T_region ?_
    refine TL_y rfl rfl (Y_move rfl) ?_
    refine TL_y rfl rfl (Y_nil_check rfl) ?_
    refine TL_y rfl rfl (Y_field_addr rfl) ?_
    refine TL_y rfl rfl (Y_load rfl rfl) ?_
    refine TL_range rfl rfl ?_
    intro it47
    refine TL_nil ?_
    refine T_block ?_
    refine T_loopK (σ := List (ByteArray × Int)) [3, 47] (fun done => True) (fun done kv => kv) (fun done => cells b2 [.slice A18 s.os.length c18, .map (some bt2), .map (some be2), .int .i64 s.dn] 113 :: osl ordR 29 A18 c18 s.os :: omap strK (intR .i64) false bt2 p.tk :: omap strK (intR .i64) false be2 done :: mrange strK (intR .i64) false p.be it47 p.ep done :: cells b [.slice p.A s.os.length p.c, .map (some p.bt), .map (some p.be), .int .i64 s.dn] 113 :: osl ordR 29 p.A p.c s.os :: omap strK (intR .i64) false p.bt p.tk :: L) (fun done => p.ep.length - done.length) ([]) rfl (trivial) (GivesTo.g) (sub_cons rfl (sub_cons rfl (sub_nil))) ?_
    intro done hdone
    refine T_region ?_
    refine TL_next rfl rfl (fun hp2 => ?_) (fun q1 cs1 hq hd1 hlt => ?_)
    · refine TL_y rfl rfl (Y_extract rfl rfl) ?_
      refine TL_name 49 (v' := .bool false) rfl (rfl) ?_
      refine TL_nil ?_
      refine T_seq ?_
      refine T_cond_false rfl ?_
      refine T_exit ?_
      refine thenS_exit ?_
      refine thenS_exit ?_
      refine inB_hit ?_
      refine thenS_normal ?_
      refine T_mperm be2 hp2 ?_
      refine T_endrange it47 ?_
      refine T_region ?_
      refine TL_y rfl rfl (Y_move rfl) ?_
      refine TL_y rfl rfl (Y_assign rfl) ?_
      refine TL_nil ?_
      refine T_ret ?_
      refine RetQ.gives (sm_shut b2 s hi) ?_
      refine RetQ.gives (sm_shut b s hi) ?_
      exact RetG_1 (.inl rfl) rfl (ResV.tmp rfl) GivesTo.g (⟨b2, rfl, rfl⟩)
    · refine TL_y rfl rfl (Y_extract rfl rfl) ?_
      refine TL_name 49 (v' := .bool true) rfl (rfl) ?_
      refine TL_nil ?_
      refine T_seq ?_
      refine T_cond_true rfl ?_
      refine T_skip ?_
      refine thenS_normal ?_
      refine T_block ?_
      refine T_region ?_
      refine TL_entry_v rfl rfl ?_
      intro ok34 ex34
      obtain ⟨M0, cs0, _, hin⟩ := ex34
      refine TL_y rfl rfl (Y_extract rfl rfl) ?_
      refine TL_y rfl rfl (Y_extract rfl rfl) ?_
      refine TL_y rfl rfl (Y_assign rfl) ?_
      refine TL_y rfl rfl (Y_assign rfl) ?_
      refine TL_nil ?_
      refine T_region_last ?_
      refine TL_y rfl rfl (Y_move rfl) ?_
      refine TL_y rfl rfl (Y_nil_check rfl) ?_
      refine TL_y rfl rfl (Y_field_addr rfl) ?_
      refine TL_y rfl rfl (Y_load rfl rfl) ?_
      refine TL_y rfl rfl (Y_move rfl) ?_
      refine TL_y rfl rfl (Y_move rfl) ?_
      refine TL_update (k := q1.1) (u := q1.2) (cs := [.int .i64 q1.2]) (done ++ [q1]) rfl rfl rfl ok34 (by exact Knows.const fun M => ⟨rfl, hin⟩) (put_new hd1) ?_
      refine TL_nil ?_
      refine inB_normal ?_
      refine thenS_normal ?_
      exact ⟨done ++ [q1], trivial, by simp only [List.length_append, List.length_cons, List.length_nil]; omega, holds_to (sub_cons rfl (sub_cons rfl (sub_nil))) GivesTo.g⟩
  · refine TL_y rfl rfl (Y_extract rfl rfl) ?_
    refine TL_name 33 (v' := .bool true) rfl (rfl) ?_
    refine TL_nil ?_
    refine T_seq ?_
    refine T_cond_true rfl ?_
    refine T_skip ?_
    refine thenS_normal ?_
    refine T_block ?_
    refine T_region ?_
    refine TL_entry_v rfl rfl ?_
    intro ok34 ex34
    obtain ⟨M0, cs0, _, hin⟩ := ex34
    refine TL_y rfl rfl (Y_extract rfl rfl) ?_
    refine TL_y rfl rfl (Y_extract rfl rfl) ?_
    refine TL_y rfl rfl (Y_assign rfl) ?_
    refine TL_y rfl rfl (Y_assign rfl) ?_
    refine TL_nil ?_
    refine T_region_last ?_
    refine TL_y rfl rfl (Y_move rfl) ?_
    refine TL_y rfl rfl (Y_nil_check rfl) ?_
    refine TL_y rfl rfl (Y_field_addr rfl) ?_
    refine TL_y rfl rfl (Y_load rfl rfl) ?_
    refine TL_y rfl rfl (Y_move rfl) ?_
    refine TL_y rfl rfl (Y_move rfl) ?_
    refine TL_update (k := q1.1) (u := q1.2) (cs := [.int .i64 q1.2]) (done ++ [q1]) rfl rfl rfl ok34 (by exact Knows.const fun M => ⟨rfl, hin⟩) (put_new hd1) ?_
    refine TL_nil ?_
    refine inB_normal ?_
    refine thenS_normal ?_
    exact ⟨done ++ [q1], trivial, by simp only [List.length_append, List.length_cons, List.length_nil]; omega, holds_to (sub_cons rfl (sub_cons rfl (sub_cons rfl (sub_nil)))) GivesTo.g⟩
theorem sealFork_nil (L : List HP) : Fn Try.prog 30 #[.pointer none] L (fun v L' => v = .pointer none ∧ L' = L) := by
  refine Fn_enter Try.func30 rfl rfl rfl rfl ?_
  refine T_region ?_
  refine TL_y rfl rfl (Y_assign rfl) ?_
  refine TL_nil ?_
  refine T_seq ?_
  refine T_region ?_
  refine TL_y rfl rfl (Y_move rfl) ?_
  refine TL_call rfl rfl (sealMade_nil _) ?_
  rintro _ _ ⟨rfl, rfl⟩
  refine TL_name 9 (v' := .bool false) rfl (rfl) ?_
  refine TL_y rfl rfl (Y_not_f rfl) ?_
  refine TL_nil ?_
  refine T_cond_true rfl ?_
  refine T_region ?_
  refine TL_y rfl rfl (Y_assign rfl) ?_
  refine TL_nil ?_
  refine T_ret ?_
  refine thenS_ret ?_
  exact RetG_1 (.inl rfl) rfl (ResV.tmp rfl) GivesTo.g (⟨rfl, rfl⟩)
/-! ### An entry is carried out -/
theorem tokI_new {os : List OrdD} {x : OrderD} (h : tokS os x.token = none) (t : ByteArray) : (tokI (os ++ [newS os x]) t : Int) = if x.token = t then (os.length : Int) + 1 else (tokI os t : Int) := by
  unfold tokI
  rw [List.findIdx?_append]
  have h0 := tokS_none.1 h
  by_cases ht : x.token = t
  · subst ht
    have h1 : (os.findIdx? fun o => decide (o.x.token = x.token)) = none := by
      unfold tokI at h0; split at h0
      · omega
      · assumption
    rw [h1]; simp [newS, List.findIdx?_cons]
  · rw [if_neg ht]
    cases e : os.findIdx? fun o => decide (o.x.token = t) with
    | some i => simp
    | none => simp [newS, List.findIdx?_cons, ht]
theorem cntS_new (os : List OrdD) (x : OrderD) (c : ByteArray) : (cntS (os ++ [newS os x]) c : Int) = if x.cart = c then (cntS os c : Int) + 1 else (cntS os c : Int) := by
  unfold cntS
  rw [List.filter_append, List.length_append]
  by_cases h : x.cart = c <;> simp [newS, h]
theorem SInv_new {s : SM} {tk ep : List (ByteArray × Int)} {x : OrderD} {k : Int} (hi : SInv s tk ep) (h : tokS s.os x.token = none) (hl : s.os.length < 65536) (hk : k = (cntS s.os x.cart : Int) + 1) (dn : Int) :
    SInv ⟨s.os ++ [newS s.os x], dn⟩ ((x.token, (s.os.length : Int) + 1) :: delM tk x.token) ((x.cart, k) :: delM ep x.cart) := by
  refine ⟨by simp; omega, fun t => ?_, fun c => ?_⟩
  · rw [getM_cons, tokI_new h]
    by_cases ht : x.token = t
    · simp [ht]
    · rw [if_neg ht, if_neg ht, getM_del, if_neg (Ne.symm ht)]; exact hi.2.1 t
  · rw [getM_cons, cntS_new]
    by_cases ht : x.cart = c
    · simp [ht, hk]
    · rw [if_neg ht, if_neg ht, getM_del, if_neg (Ne.symm ht)]; exact hi.2.2 c
abbrev entryV (e : EntryD) (p : Option Addr × Nat) : Value := .agg (List.toArray (entryC e p))
theorem sealDo_spec {L : List HP} {b : Nat} {s : SM} {A : Option Addr} {c : Nat} (e : EntryD) (hx : orderOk' e.order) (hk : SlK L (intR .i64) A c e.order.cut) (hb : cSeal e.order ≤ 140737488355000) (hd : intIn .i64 (s.dn + 1)) : Fn Try.prog 19 #[.pointer (some ⟨b, 0, none⟩), entryV e (A, c)] (sm b s :: L)
    (fun v L' => ∃ A' c', v = .tuple #[ordV (doS s e).2.1 (A', c'), .bool (doS s e).2.2.1, .int .i64 (doS s e).2.2.2] ∧ L' = sl (intR .i64) A' c' (doS s e).2.1.x.cut :: sm b (doS s e).1 :: L) := by
  have hd := i64In hd
  refine Fn_enter Try.func19 rfl rfl rfl rfl ?_
  refine T_gives (SlK.lay hk.tail) ?_
  refine T_region ?_
  refine TL_box rfl rfl rfl ?_
  intro b3
  refine TL_alloc rfl rfl ?_
  intro b4
  refine TL_y rfl rfl (Y_assign rfl) ?_
  refine TL_y rfl rfl (Y_assign rfl) ?_
  refine TL_nil ?_
  refine T_seq ?_
  refine T_region ?_
  refine TL_y rfl rfl (Y_move rfl) ?_
  refine TL_pullk b ?_
  refine TL_call rfl rfl (sealMade_spec) ?_
  rintro _ _ ⟨rfl, rfl⟩
  refine TL_name 14 (v' := .bool true) rfl (rfl) ?_
  refine TL_y rfl rfl (Y_not_t rfl) ?_
  refine TL_nil ?_
  refine T_cond_false rfl ?_
  refine T_skip ?_
  refine thenS_normal ?_
  refine T_seq ?_
  refine T_region ?_
  refine TL_y rfl rfl (Y_load_agg rfl rfl) ?_
  refine TL_y rfl rfl (Y_build rfl rfl) ?_
  refine TL_call rfl rfl (msgEntry_spec e hx slk hb) ?_
  rintro _ _ ⟨⟨B, d0, k0, rfl⟩, rfl⟩
  refine TL_y rfl rfl (Y_move rfl) ?_
  refine TL_y rfl rfl (Y_extract rfl rfl) ?_
  refine TL_y rfl rfl (Y_extract rfl rfl) ?_
  refine TL_y rfl rfl (Y_assign rfl) ?_
  refine TL_y rfl rfl (Y_assign rfl) ?_
  refine TL_nil ?_
  refine T_region ?_
  refine TL_y rfl rfl (Y_move rfl) ?_
  refine TL_y rfl rfl (Y_ne rfl rfl) ?_
  refine TL_nil ?_
  refine T_if rfl (fun h24 => ?_) (fun h24 => ?_)
  · have hr : ¬ rEntry e := fun h => by rw [if_pos h] at h24; exact h24 rfl
    refine T_region ?_
    refine TL_y rfl rfl (Y_build rfl rfl) ?_
    refine TL_store rfl rfl rfl rfl rfl rfl ?_
    refine TL_y rfl rfl (Y_assign rfl) ?_
    refine TL_y rfl rfl (Y_assign rfl) ?_
    refine TL_nil ?_
    refine T_ret ?_
    refine thenS_ret ?_
    have hdo : doS s e = (s, ord0, false, 1) := by unfold doS; rw [if_pos hr]
    rw [hdo]
    refine RetQ.gives (slnil (A := none) (c := 0) (R := intR .i64)).lay ?_
    exact RetG_3 (.inl rfl) rfl (ResV.agg rfl rfl) (ResV.tmp rfl) (ResV.tmp rfl) GivesTo.g (⟨none, 0, rfl, rfl⟩)
  · have hr : rEntry e := Classical.byContradiction fun h => by rw [if_neg h] at h24; omega
    refine T_skip ?_
    refine thenS_normal ?_
    refine T_pullk b ?_
    refine T_sm fun p hi => ?_
    refine T_region ?_
    refine TL_y rfl rfl (Y_move rfl) ?_
    refine TL_y rfl rfl (Y_nil_check rfl) ?_
    refine TL_y rfl rfl (Y_field_addr rfl) ?_
    refine TL_y rfl rfl (Y_load rfl rfl) ?_
    refine TL_y rfl rfl (Y_add rfl rfl (by omega)) ?_
    refine TL_y rfl rfl (Y_nil_check rfl) ?_
    refine TL_y rfl rfl (Y_field_addr rfl) ?_
    refine TL_store rfl rfl rfl rfl rfl rfl ?_
    refine TL_gives (sm_shut b ⟨s.os, s.dn + 1⟩ hi) ?_
    refine TL_nil ?_
    refine T_seq ?_
    refine T_region ?_
    refine TL_y rfl rfl (Y_field_addr rfl) ?_
    refine TL_y rfl rfl (Y_load rfl rfl) ?_
    refine TL_nil ?_
    refine T_cond rfl (fun h34 => ?_) (fun h34 => ?_)
    · refine T_region ?_
      refine TL_y rfl rfl (Y_build rfl rfl) ?_
      refine TL_store rfl rfl rfl rfl rfl rfl ?_
      refine TL_y rfl rfl (Y_assign rfl) ?_
      refine TL_y rfl rfl (Y_assign rfl) ?_
      refine TL_nil ?_
      refine T_ret ?_
      refine thenS_ret ?_
      have hdo : doS s e = (⟨s.os, s.dn + 1⟩, ord0, false, 0) := by unfold doS; rw [if_neg (fun h => h hr), if_pos h34]
      rw [hdo]
      refine RetQ.gives (slnil (A := none) (c := 0) (R := intR .i64)).lay ?_
      exact RetG_3 (.inl rfl) rfl (ResV.agg rfl rfl) (ResV.tmp rfl) (ResV.tmp rfl) GivesTo.g (⟨none, 0, rfl, rfl⟩)
    · refine T_skip ?_
      refine thenS_normal ?_
      refine T_region ?_
      refine TL_y rfl rfl (Y_field_addr rfl) ?_
      refine TL_y rfl rfl (Y_load_agg rfl rfl) ?_
      refine TL_alloc rfl rfl ?_
      intro b9
      refine TL_store rfl rfl rfl rfl rfl rfl ?_
      refine TL_nil ?_
      refine T_seq ?_
      refine T_region ?_
      refine TL_y rfl rfl (Y_move rfl) ?_
      refine TL_y rfl rfl (Y_field_addr rfl) ?_
      refine TL_y rfl rfl (Y_load rfl rfl) ?_
      refine TL_pullk b ?_
      refine TL_call rfl rfl (sealToken_spec e.order.token hx.1) ?_
      rintro _ _ ⟨A42, c42, rfl, rfl⟩
      refine TL_y rfl rfl (Y_move rfl) ?_
      refine TL_y rfl rfl (Y_extract rfl rfl) ?_
      refine TL_y rfl rfl (Y_extract rfl rfl) ?_
      refine TL_alloc rfl rfl ?_
      intro b10
      refine TL_store rfl rfl rfl rfl rfl rfl ?_
      refine TL_y rfl rfl (Y_assign rfl) ?_
      refine TL_nil ?_
      refine T_region ?_
      refine TL_y rfl rfl (Y_move rfl) ?_
      refine TL_nil ?_
      refine T_cond rfl (fun h45 => ?_) (fun h45 => ?_)
      · obtain ⟨o, ho⟩ := Option.isSome_iff_exists.1 h45
        have hdo : doS s e = (⟨s.os, s.dn + 1⟩, o, false, 0) := by unfold doS; rw [if_neg (fun h => h hr), if_neg (by simp [h34])]; simp only [ho]
        refine T_region ?_
        refine TL_y rfl rfl (Y_load_agg rfl rfl) ?_
        refine TL_store rfl rfl rfl rfl rfl rfl ?_
        refine TL_y rfl rfl (Y_assign rfl) ?_
        refine TL_y rfl rfl (Y_assign rfl) ?_
        refine TL_nil ?_
        refine T_ret ?_
        refine thenS_ret ?_
        simp only [ho, show orE (some o) = o from rfl]
        rw [hdo]
        exact RetG_3 (.inl rfl) rfl (ResV.agg rfl rfl) (ResV.tmp rfl) (ResV.tmp rfl) GivesTo.g (⟨A42, c42, rfl, rfl⟩)
      · have ht : tokS s.os e.order.token = none := by simpa using h45
        refine T_skip ?_
        refine thenS_normal ?_
        refine T_seq ?_
        refine T_block ?_
        refine T_pullk b ?_
        refine T_sm fun p2 hi2 => ?_
        dsimp only at hi2 ⊢
        refine T_region_draw _ [0, 1, 0, 4, 12, 28, 0, 64, 252, 511, 1023] [] [(0, true), (1, true), (2, true), (3, true), (4, true), (5, true), (6, true), (7, true), (8, true), (9, true), (10, true)] (by kernel_rfl) (by decide +kernel) (Gives.refl _) ?_
        refine TF_y rfl rfl (Y_field_addr rfl) ?_
        refine TF_y rfl rfl (Y_load rfl rfl) ?_
        refine TF_y rfl rfl (Y_move rfl) ?_
        refine TF_y rfl rfl (Y_nil_check rfl) ?_
        refine TF_y rfl rfl (Y_field_addr rfl) ?_
        refine TF_y rfl rfl (Y_load rfl rfl) ?_
        refine TF_y rfl rfl (Y_field_addr rfl) ?_
        refine TF_y rfl rfl (Y_load rfl rfl) ?_
        refine TF_y rfl rfl (Y_lookup (k := e.order.cart) rfl rfl hx.2.1) ?_
        refine TF_name 56 (v' := .int .i64 (cntS s.os e.order.cart : Int)) rfl (by have := hi2.2.2 e.order.cart; cases e0 : getM p2.ep e.order.cart <;> rw [e0] at this <;> simp at this <;> simp [lookV, this]) ?_
        refine TF_y rfl rfl (Y_ne rfl rfl) ?_
        refine TF_y rfl rfl (Y_assign rfl) ?_
        refine TF_nil ?_
        refine T_if rfl (fun h47 => ?_) (fun h47 => ?_)
        · refine T_region ?_
          refine TL_y rfl rfl (Y_build rfl rfl) ?_
          refine TL_store rfl rfl rfl rfl rfl rfl ?_
          refine TL_y rfl rfl (Y_assign rfl) ?_
          refine TL_y rfl rfl (Y_assign rfl) ?_
          refine TL_nil ?_
          refine T_ret ?_
          refine inB_ret ?_
          refine thenS_ret ?_
          have hdo : doS s e = (⟨s.os, s.dn + 1⟩, ord0, false, 190) := by unfold doS; rw [if_neg (fun h => h hr), if_neg (by simp [h34])]; simp only [ht]; rw [if_pos h47]
          rw [hdo]
          refine RetQ.gives (sm_shut b ⟨s.os, s.dn + 1⟩ hi2) ?_
          refine RetQ.gives (slnil (A := none) (c := 0) (R := intR .i64)).lay ?_
          exact RetG_3 (.inl rfl) rfl (ResV.agg rfl rfl) (ResV.tmp rfl) (ResV.tmp rfl) GivesTo.g (⟨none, 0, rfl, rfl⟩)
        · refine T_region ?_
          refine TL_y rfl rfl (Y_move rfl) ?_
          refine TL_y rfl rfl (Y_nil_check rfl) ?_
          refine TL_y rfl rfl (Y_field_addr rfl) ?_
          refine TL_y rfl rfl (Y_load rfl rfl) ?_
          refine TL_y rfl rfl (Y_len rfl) ?_
          refine TL_y rfl rfl (Y_ge rfl rfl) ?_
          refine TL_y rfl rfl (Y_assign rfl) ?_
          refine TL_nil ?_
          refine T_if rfl (fun h59 => ?_) (fun h59 => ?_)
          · refine T_region ?_
            refine TL_y rfl rfl (Y_build rfl rfl) ?_
            refine TL_store rfl rfl rfl rfl rfl rfl ?_
            refine TL_y rfl rfl (Y_assign rfl) ?_
            refine TL_y rfl rfl (Y_assign rfl) ?_
            refine TL_nil ?_
            refine T_ret ?_
            refine inB_ret ?_
            refine thenS_ret ?_
            have hdo : doS s e = (⟨s.os, s.dn + 1⟩, ord0, false, 2) := by unfold doS; rw [if_neg (fun h => h hr), if_neg (by simp [h34])]; simp only [ht]; rw [if_neg h47, if_pos (by omega)]
            rw [hdo]
            refine RetQ.gives (sm_shut b ⟨s.os, s.dn + 1⟩ hi2) ?_
            refine RetQ.gives (slnil (A := none) (c := 0) (R := intR .i64)).lay ?_
            exact RetG_3 (.inl rfl) rfl (ResV.agg rfl rfl) (ResV.tmp rfl) (ResV.tmp rfl) GivesTo.g (⟨none, 0, rfl, rfl⟩)
          · refine T_skip ?_
            refine inB_normal ?_
            refine thenS_normal ?_
            have hno : ordOk (newS s.os e.order) := ⟨i64In_mk (by show -9223372036854775808 ≤ ((s.os.length : Nat) : Int) + 1 ∧ ((s.os.length : Nat) : Int) + 1 ≤ 9223372036854775807; omega), hx⟩
            refine T_region_draw2 _ _ 15 16 (by decide) [0, 1, 3, 7, 15, 31, 0, 64, 0, 256, 0, 1024, 0, 4096, 16383, 32767, 65535, 131071] [] [(0, true), (1, true), (2, true), (3, true), (4, true), (5, true), (6, true), (7, true), (8, true), (9, true), (10, true), (11, true), (12, true), (13, true), (14, true), (15, false), (16, false), (17, false)] [0, 1, 3, 7, 15, 31, 0, 64, 0, 256, 0, 1024, 0, 4096, 16383, 98303, 0, 131071] [] [(0, true), (1, true), (2, true), (3, true), (4, true), (5, true), (6, true), (7, true), (8, true), (9, true), (10, true), (11, true), (12, true), (13, true), (14, true), (16, false), (15, false), (17, false)] (by kernel_rfl) (by decide +kernel) (by decide +kernel) (Gives.refl _) (Gives.refl _) ?_ ?_
            · refine TF_y rfl rfl (Y_move rfl) ?_
              refine TF_y rfl rfl (Y_nil_check rfl) ?_
              refine TF_y rfl rfl (Y_field_addr rfl) ?_
              refine TF_y rfl rfl (Y_load rfl rfl) ?_
              refine TF_y rfl rfl (Y_len rfl) ?_
              refine TF_y rfl rfl (Y_add rfl rfl (by omega)) ?_
              refine TF_y rfl rfl (Y_field_addr rfl) ?_
              refine TF_y rfl rfl (Y_load rfl rfl) ?_
              refine TF_y rfl rfl (Y_field_addr rfl) ?_
              refine TF_y rfl rfl (Y_load rfl rfl) ?_
              refine TF_y rfl rfl (Y_field_addr rfl) ?_
              refine TF_y rfl rfl (Y_load rfl rfl) ?_
              refine TF_y rfl rfl (Y_field_addr rfl) ?_
              refine TF_y rfl rfl (Y_load rfl rfl) ?_
              refine TF_y rfl rfl (Y_build rfl rfl) ?_
              refine TF_anchor rfl ?_
              refine TL_call rfl rfl (sealCopied_spec (newS s.os e.order) hno slk) ?_
              rintro _ _ ⟨A82, c82, rfl, rfl⟩
              refine TF_end GivesTo.g ?_
              refine TF_anchor rfl ?_
              refine TL_alloc rfl rfl ?_
              intro b12
              refine TF_end GivesTo.g ?_
              refine TF_anchor rfl ?_
              refine TL_store rfl rfl rfl rfl rfl rfl ?_
              refine TF_end GivesTo.g ?_
              refine TF_nil ?_
              refine T_region_draw (cells b [.slice p2.A s.os.length p2.c, .map (some p2.bt), .map (some p2.be), .int .i64 (s.dn + 1)] 113 :: cells b12 (ordC (newS s.os e.order) (A82, c82)) 29 :: []) [0, 0, 2, 6, 14, 0, 32, 126, 255, 511, 1023] [10] [(0, true), (1, true), (2, true), (3, true), (4, true), (5, true), (6, false), (7, false), (8, true), (9, true), (10, false)] (by kernel_rfl) (by decide +kernel) GivesTo.g ?_
              refine TF_y rfl rfl (Y_move rfl) ?_
              refine TF_y rfl rfl (Y_move rfl) ?_
              refine TF_y rfl rfl (Y_nil_check rfl) ?_
              refine TF_y rfl rfl (Y_field_addr rfl) ?_
              refine TF_y rfl rfl (Y_load rfl rfl) ?_
              refine TF_y rfl rfl (Y_load_agg rfl rfl) ?_
              refine TF_anchor rfl ?_
              refine TL_build_slice rfl rfl rfl rfl rfl rfl ?_
              intro b89
              refine TL_osl (k := 1) ordR [newS s.os e.order] (cells_one (ord_rep slk hno)) rfl (by decide) ?_
              refine TL_freeze_osl ?_
              refine TL_name 89 (v' := .slice (some ⟨b89, 0, none⟩) [newS s.os e.order].length 1) rfl rfl ?_
              refine TF_end GivesTo.g ?_
              refine TF_anchor rfl ?_
              refine TL_append rfl rfl rfl rfl rfl slk (by (try simp only [List.length_append, List.length_cons, List.length_nil]); omega) ?_
              intro A90 c90
              refine TF_end GivesTo.g ?_
              refine TF_y rfl rfl (Y_nil_check rfl) ?_
              refine TF_y rfl rfl (Y_field_addr rfl) ?_
              refine TF_anchor rfl ?_
              refine TL_store rfl rfl rfl rfl rfl rfl ?_
              refine TF_end_tail rfl ?_
              refine TF_nil ?_
              refine T_region_draw _ [0, 1, 3, 7, 0, 16, 0, 64, 255] [8] [(0, true), (1, true), (2, true), (3, true), (4, true), (5, true), (6, true), (7, true), (8, false)] (by kernel_rfl) (by decide +kernel) (Gives.refl _) ?_
              refine TF_y rfl rfl (Y_move rfl) ?_
              refine TF_y rfl rfl (Y_nil_check rfl) ?_
              refine TF_y rfl rfl (Y_field_addr rfl) ?_
              refine TF_y rfl rfl (Y_load rfl rfl) ?_
              refine TF_y rfl rfl (Y_field_addr rfl) ?_
              refine TF_y rfl rfl (Y_load rfl rfl) ?_
              refine TF_y rfl rfl (Y_field_addr rfl) ?_
              refine TF_y rfl rfl (Y_load rfl rfl) ?_
              refine TF_anchor rfl ?_
              refine TL_update (k := e.order.token) (u := (s.os.length : Int) + 1) (cs := [.int .i64 ((s.os.length : Int) + 1)]) _ rfl rfl rfl hx.1 (by exact Knows.const fun M => ⟨rfl, hno.1⟩) (List.Perm.refl _) ?_
              refine TF_end_tail rfl ?_
              refine TF_nil ?_
              refine T_region_draw _ [0, 1, 3, 7, 0, 16, 63, 127, 255] [8] [(0, true), (1, true), (2, true), (3, true), (4, true), (5, true), (6, true), (7, true), (8, false)] (by kernel_rfl) (by decide +kernel) (Gives.refl _) ?_
              refine TF_y rfl rfl (Y_move rfl) ?_
              refine TF_y rfl rfl (Y_nil_check rfl) ?_
              refine TF_y rfl rfl (Y_field_addr rfl) ?_
              refine TF_y rfl rfl (Y_load rfl rfl) ?_
              refine TF_y rfl rfl (Y_field_addr rfl) ?_
              refine TF_y rfl rfl (Y_load rfl rfl) ?_
              refine TF_y rfl rfl (Y_lookup (k := e.order.cart) rfl rfl hx.2.1) ?_
              refine TF_name 107 (v' := .int .i64 (cntS s.os e.order.cart : Int)) rfl (by have := hi2.2.2 e.order.cart; cases e0 : getM p2.ep e.order.cart <;> rw [e0] at this <;> simp at this <;> simp [lookV, this]) ?_
              refine TF_y rfl rfl (Y_add rfl rfl (by have := cntS_le s.os e.order.cart; omega)) ?_
              refine TF_anchor rfl ?_
              refine TL_update (k := e.order.cart) (u := (cntS s.os e.order.cart : Int) + 1) (cs := [.int .i64 ((cntS s.os e.order.cart : Int) + 1)]) _ rfl rfl rfl hx.2.1 (by exact Knows.const fun M => ⟨rfl, i64In_mk (by have := cntS_le s.os e.order.cart; omega)⟩) (List.Perm.refl _) ?_
              refine TF_end_tail rfl ?_
              refine TF_nil ?_
              refine T_region ?_
              refine TL_y rfl rfl (Y_load_agg rfl rfl) ?_
              refine TL_call rfl rfl (sealCopied_spec (newS s.os e.order) hno slk) ?_
              rintro _ _ ⟨A110, c110, rfl, rfl⟩
              refine TL_store rfl rfl rfl rfl rfl rfl ?_
              refine TL_y rfl rfl (Y_assign rfl) ?_
              refine TL_y rfl rfl (Y_assign rfl) ?_
              refine TL_nil ?_
              refine T_ret ?_
              have hdo : doS s e = (⟨s.os ++ [newS s.os e.order], s.dn + 1⟩, newS s.os e.order, true, 0) := by unfold doS; rw [if_neg (fun h => h hr), if_neg (by simp [h34])]; simp only [ht]; rw [if_neg h47, if_neg (by omega)]
              rw [hdo]
              refine RetQ.gives (sm_shut b ⟨s.os ++ [newS s.os e.order], s.dn + 1⟩ (SInv_new hi2 ht (by show s.os.length < 65536; omega) rfl _)) ?_
              exact RetG_3 (.inl rfl) rfl (ResV.agg rfl rfl) (ResV.tmp rfl) (ResV.tmp rfl) GivesTo.g (⟨A110, c110, rfl, rfl⟩)
            · refine TF_y rfl rfl (Y_move rfl) ?_
              refine TF_y rfl rfl (Y_nil_check rfl) ?_
              refine TF_y rfl rfl (Y_field_addr rfl) ?_
              refine TF_y rfl rfl (Y_load rfl rfl) ?_
              refine TF_y rfl rfl (Y_len rfl) ?_
              refine TF_y rfl rfl (Y_add rfl rfl (by omega)) ?_
              refine TF_y rfl rfl (Y_field_addr rfl) ?_
              refine TF_y rfl rfl (Y_load rfl rfl) ?_
              refine TF_y rfl rfl (Y_field_addr rfl) ?_
              refine TF_y rfl rfl (Y_load rfl rfl) ?_
              refine TF_y rfl rfl (Y_field_addr rfl) ?_
              refine TF_y rfl rfl (Y_load rfl rfl) ?_
              refine TF_y rfl rfl (Y_field_addr rfl) ?_
              refine TF_y rfl rfl (Y_load rfl rfl) ?_
              refine TF_y rfl rfl (Y_build rfl rfl) ?_
              refine TF_anchor rfl ?_
              refine TL_alloc rfl rfl ?_
              intro b12
              refine TF_end GivesTo.g ?_
              refine TF_anchor rfl ?_
              refine TL_call rfl rfl (sealCopied_spec (newS s.os e.order) hno slk) ?_
              rintro _ _ ⟨A82, c82, rfl, rfl⟩
              refine TF_end GivesTo.g ?_
              refine TF_anchor rfl ?_
              refine TL_store rfl rfl rfl rfl rfl rfl ?_
              refine TF_end GivesTo.g ?_
              refine TF_nil ?_
              refine T_region_draw (cells b [.slice p2.A s.os.length p2.c, .map (some p2.bt), .map (some p2.be), .int .i64 (s.dn + 1)] 113 :: cells b12 (ordC (newS s.os e.order) (A82, c82)) 29 :: []) [0, 0, 2, 6, 14, 0, 32, 126, 255, 511, 1023] [10] [(0, true), (1, true), (2, true), (3, true), (4, true), (5, true), (6, false), (7, false), (8, true), (9, true), (10, false)] (by kernel_rfl) (by decide +kernel) GivesTo.g ?_
              refine TF_y rfl rfl (Y_move rfl) ?_
              refine TF_y rfl rfl (Y_move rfl) ?_
              refine TF_y rfl rfl (Y_nil_check rfl) ?_
              refine TF_y rfl rfl (Y_field_addr rfl) ?_
              refine TF_y rfl rfl (Y_load rfl rfl) ?_
              refine TF_y rfl rfl (Y_load_agg rfl rfl) ?_
              refine TF_anchor rfl ?_
              refine TL_build_slice rfl rfl rfl rfl rfl rfl ?_
              intro b89
              refine TL_osl (k := 1) ordR [newS s.os e.order] (cells_one (ord_rep slk hno)) rfl (by decide) ?_
              refine TL_freeze_osl ?_
              refine TL_name 89 (v' := .slice (some ⟨b89, 0, none⟩) [newS s.os e.order].length 1) rfl rfl ?_
              refine TF_end GivesTo.g ?_
              refine TF_anchor rfl ?_
              refine TL_append rfl rfl rfl rfl rfl slk (by (try simp only [List.length_append, List.length_cons, List.length_nil]); omega) ?_
              intro A90 c90
              refine TF_end GivesTo.g ?_
              refine TF_y rfl rfl (Y_nil_check rfl) ?_
              refine TF_y rfl rfl (Y_field_addr rfl) ?_
              refine TF_anchor rfl ?_
              refine TL_store rfl rfl rfl rfl rfl rfl ?_
              refine TF_end_tail rfl ?_
              refine TF_nil ?_
              refine T_region_draw _ [0, 1, 3, 7, 0, 16, 0, 64, 255] [8] [(0, true), (1, true), (2, true), (3, true), (4, true), (5, true), (6, true), (7, true), (8, false)] (by kernel_rfl) (by decide +kernel) (Gives.refl _) ?_
              refine TF_y rfl rfl (Y_move rfl) ?_
              refine TF_y rfl rfl (Y_nil_check rfl) ?_
              refine TF_y rfl rfl (Y_field_addr rfl) ?_
              refine TF_y rfl rfl (Y_load rfl rfl) ?_
              refine TF_y rfl rfl (Y_field_addr rfl) ?_
              refine TF_y rfl rfl (Y_load rfl rfl) ?_
              refine TF_y rfl rfl (Y_field_addr rfl) ?_
              refine TF_y rfl rfl (Y_load rfl rfl) ?_
              refine TF_anchor rfl ?_
              refine TL_update (k := e.order.token) (u := (s.os.length : Int) + 1) (cs := [.int .i64 ((s.os.length : Int) + 1)]) _ rfl rfl rfl hx.1 (by exact Knows.const fun M => ⟨rfl, hno.1⟩) (List.Perm.refl _) ?_
              refine TF_end_tail rfl ?_
              refine TF_nil ?_
              refine T_region_draw _ [0, 1, 3, 7, 0, 16, 63, 127, 255] [8] [(0, true), (1, true), (2, true), (3, true), (4, true), (5, true), (6, true), (7, true), (8, false)] (by kernel_rfl) (by decide +kernel) (Gives.refl _) ?_
              refine TF_y rfl rfl (Y_move rfl) ?_
              refine TF_y rfl rfl (Y_nil_check rfl) ?_
              refine TF_y rfl rfl (Y_field_addr rfl) ?_
              refine TF_y rfl rfl (Y_load rfl rfl) ?_
              refine TF_y rfl rfl (Y_field_addr rfl) ?_
              refine TF_y rfl rfl (Y_load rfl rfl) ?_
              refine TF_y rfl rfl (Y_lookup (k := e.order.cart) rfl rfl hx.2.1) ?_
              refine TF_name 107 (v' := .int .i64 (cntS s.os e.order.cart : Int)) rfl (by have := hi2.2.2 e.order.cart; cases e0 : getM p2.ep e.order.cart <;> rw [e0] at this <;> simp at this <;> simp [lookV, this]) ?_
              refine TF_y rfl rfl (Y_add rfl rfl (by have := cntS_le s.os e.order.cart; omega)) ?_
              refine TF_anchor rfl ?_
              refine TL_update (k := e.order.cart) (u := (cntS s.os e.order.cart : Int) + 1) (cs := [.int .i64 ((cntS s.os e.order.cart : Int) + 1)]) _ rfl rfl rfl hx.2.1 (by exact Knows.const fun M => ⟨rfl, i64In_mk (by have := cntS_le s.os e.order.cart; omega)⟩) (List.Perm.refl _) ?_
              refine TF_end_tail rfl ?_
              refine TF_nil ?_
              refine T_region ?_
              refine TL_y rfl rfl (Y_load_agg rfl rfl) ?_
              refine TL_call rfl rfl (sealCopied_spec (newS s.os e.order) hno slk) ?_
              rintro _ _ ⟨A110, c110, rfl, rfl⟩
              refine TL_store rfl rfl rfl rfl rfl rfl ?_
              refine TL_y rfl rfl (Y_assign rfl) ?_
              refine TL_y rfl rfl (Y_assign rfl) ?_
              refine TL_nil ?_
              refine T_ret ?_
              have hdo : doS s e = (⟨s.os ++ [newS s.os e.order], s.dn + 1⟩, newS s.os e.order, true, 0) := by unfold doS; rw [if_neg (fun h => h hr), if_neg (by simp [h34])]; simp only [ht]; rw [if_neg h47, if_neg (by omega)]
              rw [hdo]
              refine RetQ.gives (sm_shut b ⟨s.os ++ [newS s.os e.order], s.dn + 1⟩ (SInv_new hi2 ht (by show s.os.length < 65536; omega) rfl _)) ?_
              exact RetG_3 (.inl rfl) rfl (ResV.agg rfl rfl) (ResV.tmp rfl) (ResV.tmp rfl) GivesTo.g (⟨A110, c110, rfl, rfl⟩)
theorem sealDo_nil {L : List HP} {A : Option Addr} {c : Nat} (e : EntryD) : Fn Try.prog 19 #[.pointer none, entryV e (A, c)] L (fun v L' => v = .tuple #[ordV ord0 (none, 0), .bool false, .int .i64 6] ∧ L' = L) := by
  refine Fn_enter Try.func19 rfl rfl rfl rfl ?_
  refine T_region ?_
  refine TL_box rfl rfl rfl ?_
  intro b3
  refine TL_alloc rfl rfl ?_
  intro b4
  refine TL_y rfl rfl (Y_assign rfl) ?_
  refine TL_y rfl rfl (Y_assign rfl) ?_
  refine TL_nil ?_
  refine T_seq ?_
  refine T_region ?_
  refine TL_y rfl rfl (Y_move rfl) ?_
  refine TL_call rfl rfl (sealMade_nil _) ?_
  rintro _ _ ⟨rfl, rfl⟩
  refine TL_name 14 (v' := .bool false) rfl (rfl) ?_
  refine TL_y rfl rfl (Y_not_f rfl) ?_
  refine TL_nil ?_
  refine T_cond_true rfl ?_
  refine T_region ?_
  refine TL_y rfl rfl (Y_build rfl rfl) ?_
  refine TL_store rfl rfl rfl rfl rfl rfl ?_
  refine TL_y rfl rfl (Y_assign rfl) ?_
  refine TL_y rfl rfl (Y_assign rfl) ?_
  refine TL_nil ?_
  refine T_ret ?_
  refine thenS_ret ?_
  exact RetG_3 (.inl rfl) rfl (ResV.agg rfl rfl) (ResV.tmp rfl) (ResV.tmp rfl) GivesTo.g (⟨rfl, rfl⟩)
end Go.SL
