/- What the document writes: the walks. -/
import Derived.Test.YtiiejjdkhekhmaaRefM
set_option linter.unusedVariables false
set_option linter.unusedSimpArgs false
namespace Go.SL
open Go Go.Proofs
theorem bNum_len {most n : Int} (h : rNum most n) (hm : most ≤ 4611686018427387904) : (bNum n).length ≤ 10 := by
  unfold rNum at h; exact grp_ten (x := n.toNat) (by omega)
theorem txt_len {s : ByteArray} (h : isName s) : (txt s).length ≤ 42 := by
  have h2 := h.2.2
  have := grp_ten (x := s.size) (by omega)
  rw [txt_length]; omega
theorem bAll_len {α : Type} {b : α → List Int} {k : Nat} : ∀ {l : List α}, (∀ x ∈ l, (b x).length ≤ k) → (bAll b l).length ≤ k * l.length
  | [], _ => by simp [bAll]
  | x :: l, h => by
    have h1 := h x List.mem_cons_self
    have h2 := bAll_len (l := l) (fun y hy => h y (List.mem_cons_of_mem _ hy))
    rw [bAll_cons, List.length_append, List.length_cons, Nat.mul_succ]; omega
theorem bVec_len {v : List Int} (h : rVec v) : (bVec v).length ≤ 80 := by
  have h1 := h.2.1
  have h2 := bNum_len (n := (v.length : Int)) (most := 7) (by unfold rNum; omega) (by decide)
  have h3 := bAll_len (b := bNum) (k := 10) (l := v) (fun x hx => bNum_len (h.1 x hx) (by decide))
  unfold bVec; rw [List.length_append]; omega
theorem bBal_len {a : Int × Int} (h : rBal a) : (bBal a).length ≤ 20 := by
  have h1 := bNum_len h.1 (by decide); have h2 := bNum_len h.2 (by decide)
  unfold bBal; rw [List.length_append]; omega
theorem bSeal_len {x : OrderD} (h : rSeal x) : (bSeal x).length ≤ 174 := by
  have h1 := txt_len h.1; have h2 := txt_len h.2.1; have h3 := bNum_len h.2.2.1 (by decide); have h4 := bVec_len h.2.2.2
  unfold bSeal; simp only [List.length_append]; omega
theorem bTruth_len (b : Bool) : (bTruth b).length ≤ 10 := grp_ten (by cases b <;> decide)
theorem bEntry_len {e : EntryD} (h : rEntry e) : (bEntry e).length ≤ 184 := by
  have h1 := bTruth_len e.noop
  unfold rEntry at h
  unfold bEntry
  rw [List.length_append]
  split at h
  · rename_i k; rw [if_pos k]; simp only [List.length_nil]; omega
  · rename_i k; rw [if_neg k]; have := bSeal_len h; omega
theorem bEvent_len {e : EventD} (h : rEvent e) : (bEvent e).length ≤ 214 := by
  obtain ⟨h1, h2, h3, h4, h5, h6, h7⟩ := h
  have a1 := bNum_len h1 (by decide); have a2 := bNum_len h2 (by decide); have a3 := bVec_len h3; have a4 := txt_len h4; have a5 := bNum_len h5 (by decide); have a6 := txt_len h6; have a7 := bNum_len h7 (by decide); have a8 := bTruth_len e.clears
  unfold bEvent; simp only [List.length_append]; omega
theorem bVoted_len {v : VotedD} (h : rVoted v) : (bVoted v).length ≤ 214 := by
  have a1 := bNum_len h.1 (by decide); have a2 := bBal_len h.2.1; have a3 := bEntry_len h.2.2
  unfold bVoted; simp only [List.length_append]; omega
theorem nat_of {most n : Int} (h : rNum most n) (hm : most ≤ 4611686018427387904) : IntKind.u64.wrap n = ((n.toNat : Nat) : Int) := by
  unfold rNum at h
  conv => lhs; rw [show n = ((n.toNat : Nat) : Int) by omega]
  exact u64_small (by omega)
theorem nat_lt {most n : Int} (h : rNum most n) (hm : most ≤ 4611686018427387904) : n.toNat < 18446744073709551616 := by unfold rNum at h; omega
structure LpSt1 where
  i : Nat
  A : Option Addr
  c : Nat
theorem refVec_spec {L : List HP} {A : Option Addr} {c : Nat} {xs : List Int} (hr : rVec xs) (hk : SlK L (intR .i64) A c xs) : Fn Try.prog 104 #[.slice A xs.length c] L (fun v L' => ∃ A' c', v = .slice A' (bVec xs).length c' ∧ L' = osl (intR .u8) 5 A' c' (bVec xs) :: L) := by
  have h7 := hr.2.1
  have hlen := bNum_len (n := (xs.length : Int)) (most := 7) (by unfold rNum; omega) (by decide)
  refine Fn_enter Try.func104 rfl rfl rfl rfl ?_
  refine T_gives hk.lay ?_
  refine T_region ?_
  refine TL_y rfl rfl (Y_assign rfl) ?_
  refine TL_nil ?_
  refine T_region ?_
  refine TL_y rfl rfl (Y_move rfl) ?_
  refine TL_y rfl rfl (Y_len rfl) ?_
  refine TL_y rfl rfl (Y_conv rfl) ?_
  refine TL_name 7 (v' := .int .u64 ((xs.length : Nat) : Int)) rfl (by rw [u64_small (by omega)]) ?_
  refine TL_call rfl rfl (refUint_spec xs.length (by omega) _) ?_
  rintro _ _ ⟨A8, c8, rfl, rfl⟩
  rw [show grp xs.length = bNum (xs.length : Int) ++ bAll bNum (xs.take 0) by simp [bNum, bAll]]
  refine TL_y rfl rfl (Y_assign rfl) ?_
  refine TL_nil ?_
  refine T_seq ?_
  refine T_region ?_
  refine TL_y rfl rfl (Y_assign rfl) ?_
  refine TL_nil ?_
  refine T_block ?_
  refine T_loopK (σ := LpSt1) [0] (fun g => g.i ≤ xs.length) (fun g kv => (4, .int .i64 (g.i : Int)) :: (3, .slice g.A (bNum (xs.length : Int) ++ bAll bNum (xs.take g.i)).length g.c) :: kv) (fun g => osl (intR .u8) 5 g.A g.c (bNum (xs.length : Int) ++ bAll bNum (xs.take g.i)) :: sl (intR .i64) A c xs :: L) (fun g => xs.length - g.i) (⟨0, A8, c8⟩) rfl (Nat.zero_le _) (GivesTo.g) (sub_cons rfl (sub_cons rfl (sub_cons rfl (sub_nil)))) ?_
  rintro ⟨i, A2, c2⟩ hi
  dsimp only at hi ⊢
  refine T_seq ?_
  refine T_region ?_
  refine TL_y rfl rfl (Y_move rfl) ?_
  refine TL_y rfl rfl (Y_move rfl) ?_
  refine TL_y rfl rfl (Y_len rfl) ?_
  refine TL_y rfl rfl (Y_lt rfl rfl) ?_
  refine TL_nil ?_
  refine T_if rfl (fun h12 => ?_) (fun h12 => ?_)
  · refine T_skip ?_
    refine thenS_normal ?_
    refine T_seq ?_
    refine T_block ?_
    refine T_region_last ?_
    refine TL_y rfl rfl (Y_move rfl) ?_
    refine TL_y rfl rfl (Y_move rfl) ?_
    refine TL_y rfl rfl (Y_move rfl) ?_
    obtain ⟨u, hu⟩ : ∃ u, xs[i]? = some u := ⟨_, List.getElem?_eq_getElem (by omega)⟩
    have hru := hr.1 u (List.mem_of_getElem? hu)
    have hlu := bNum_len hru (by decide)
    have hla := bAll_len (b := bNum) (k := 10) (l := xs.take i) (fun x hx => bNum_len (hr.1 x (List.mem_of_mem_take hx)) (by decide))
    have hlt : (xs.take i).length ≤ 7 := by rw [List.length_take]; omega
    refine TL_index_int rfl rfl rfl slk hu ?_
    intro hi18 bi18 oi18
    refine TL_y rfl rfl (Y_load_row rfl rfl) ?_
    refine TL_y rfl rfl (Y_conv rfl) ?_
    refine TL_name 20 (v' := .int .u64 ((u.toNat : Nat) : Int)) rfl (by rw [nat_of hru (by decide)]) ?_
    refine TL_call rfl rfl (refUint_spec u.toNat (nat_lt hru (by decide)) _) ?_
    rintro _ _ ⟨A21, c21, rfl, rfl⟩
    refine TL_freeze_osl ?_
    rw [show grp u.toNat = bNum u from rfl]
    refine TL_append rfl rfl rfl rfl rfl slk (by rw [List.length_append]; omega) ?_
    intro A22 c22
    rw [show bNum (xs.length : Int) ++ bAll bNum (xs.take i) ++ bNum u = bNum (xs.length : Int) ++ bAll bNum (xs.take (i + 1)) by rw [take_at hu, bAll_snoc, List.append_assoc]]
    refine TL_y rfl rfl (Y_assign rfl) ?_
    refine TL_nil ?_
    refine inB_normal ?_
    refine thenS_normal ?_
    refine T_region_last ?_
    refine TL_y rfl rfl (Y_move rfl) ?_
    refine TL_y rfl rfl (Y_add rfl rfl (by omega)) ?_
    refine TL_name 14 (v' := .int .i64 ((i + 1 : Nat) : Int)) rfl (rfl) ?_
    refine TL_y rfl rfl (Y_assign rfl) ?_
    refine TL_nil ?_
    refine thenS_normal ?_
    exact ⟨⟨i + 1, A22, c22⟩, (by simp only; omega), by simp only; omega, holds_to (sub_cons rfl (sub_cons rfl (sub_cons rfl (sub_nil)))) GivesTo.g⟩
  · refine T_exit ?_
    refine thenS_exit ?_
    refine thenS_exit ?_
    refine inB_hit ?_
    refine thenS_normal ?_
    refine T_region ?_
    refine TL_y rfl rfl (Y_move rfl) ?_
    refine TL_y rfl rfl (Y_assign rfl) ?_
    refine TL_nil ?_
    refine T_ret ?_
    have e : xs.take i = xs := List.take_of_length_le (by omega)
    rw [e, show bNum (xs.length : Int) ++ bAll bNum xs = bVec xs from rfl]
    exact RetG_1 (.inl rfl) rfl (ResV.tmp rfl) GivesTo.g (⟨A2, c2, rfl, rfl⟩)
theorem refBallot_spec {L : List HP} (a : Int × Int) (hr : rBal a) : Fn Try.prog 102 #[pairV a] L (fun v L' => ∃ A' c', v = .slice A' (bBal a).length c' ∧ L' = osl (intR .u8) 5 A' c' (bBal a) :: L) := by
  have h1 := bNum_len hr.1 (by decide); have h2 := bNum_len hr.2 (by decide)
  refine Fn_enter Try.func102 rfl rfl rfl rfl ?_
  refine T_region ?_
  refine TL_box rfl rfl rfl ?_
  intro b1
  refine TL_y rfl rfl (Y_assign rfl) ?_
  refine TL_nil ?_
  refine T_region_draw _ [0, 1, 3, 7, 0, 16, 48, 127, 255, 511] [] [(0, true), (1, true), (2, true), (4, true), (5, true), (6, true), (3, false), (7, false), (8, false), (9, true)] (by kernel_rfl) (by decide +kernel) (Gives.refl _) ?_
  refine TF_y rfl rfl (Y_field_addr rfl) ?_
  refine TF_y rfl rfl (Y_load rfl rfl) ?_
  refine TF_y rfl rfl (Y_conv rfl) ?_
  refine TF_name 5 (v' := .int .u64 ((a.1.toNat : Nat) : Int)) rfl (by rw [nat_of hr.1 (by decide)]) ?_
  refine TF_y rfl rfl (Y_field_addr rfl) ?_
  refine TF_y rfl rfl (Y_load rfl rfl) ?_
  refine TF_y rfl rfl (Y_conv rfl) ?_
  refine TF_name 9 (v' := .int .u64 ((a.2.toNat : Nat) : Int)) rfl (by rw [nat_of hr.2 (by decide)]) ?_
  refine TF_anchor rfl ?_
  refine TL_call rfl rfl (refUint_spec a.1.toNat (nat_lt hr.1 (by decide)) _) ?_
  rintro _ _ ⟨A6, c6, rfl, rfl⟩
  rw [show grp a.1.toNat = bNum a.1 from rfl]
  refine TF_end GivesTo.g ?_
  refine TF_anchor rfl ?_
  refine TL_call rfl rfl (refUint_spec a.2.toNat (nat_lt hr.2 (by decide)) _) ?_
  rintro _ _ ⟨A10, c10, rfl, rfl⟩
  refine TL_freeze_osl ?_
  rw [show grp a.2.toNat = bNum a.2 from rfl]
  refine TF_end GivesTo.g ?_
  refine TF_anchor rfl ?_
  refine TL_append rfl rfl rfl rfl rfl slk (by omega) ?_
  intro A11 c11
  refine TF_end GivesTo.g ?_
  refine TF_y rfl rfl (Y_assign rfl) ?_
  refine TF_nil ?_
  refine T_ret ?_
  rw [show bNum a.1 ++ bNum a.2 = bBal a from rfl]
  exact RetG_1 (.inl rfl) rfl (ResV.tmp rfl) GivesTo.g (⟨A11, c11, rfl, rfl⟩)
theorem refSealW_spec {L : List HP} {A : Option Addr} {c : Nat} (x : OrderD) (hr : rSeal x) (hk : SlK L (intR .i64) A c x.cut) : Fn Try.prog 117 #[.agg (List.toArray (orderC x (A, c)))] L (fun v L' => ∃ A' c', v = .slice A' (bSeal x).length c' ∧ L' = osl (intR .u8) 5 A' c' (bSeal x) :: L) := by
  have h1 := txt_len hr.1; have h2 := txt_len hr.2.1; have h3 := bNum_len hr.2.2.1 (by decide); have h4 := bVec_len hr.2.2.2
  have s1 := hr.1.2.2; have s2 := hr.2.1.2.2
  refine Fn_enter Try.func117 rfl rfl rfl rfl ?_
  refine T_gives hk.lay ?_
  refine T_region ?_
  refine TL_box rfl rfl rfl ?_
  intro b1
  refine TL_y rfl rfl (Y_assign rfl) ?_
  refine TL_nil ?_
  refine T_region_draw _ [0, 1, 3, 0, 8, 31, 63, 127] [] [(0, true), (1, true), (3, true), (4, true), (2, false), (5, false), (6, false), (7, true)] (by kernel_rfl) (by decide +kernel) (Gives.refl _) ?_
  refine TF_y rfl rfl (Y_field_addr rfl) ?_
  refine TF_y rfl rfl (Y_load rfl rfl) ?_
  refine TF_y rfl rfl (Y_field_addr rfl) ?_
  refine TF_y rfl rfl (Y_load rfl rfl) ?_
  refine TF_anchor rfl ?_
  refine TL_call rfl rfl (refText_spec _ x.token (by omega)) ?_
  rintro _ _ ⟨A6, c6, rfl, rfl⟩
  refine TF_end GivesTo.g ?_
  refine TF_anchor rfl ?_
  refine TL_call rfl rfl (refText_spec _ x.cart (by omega)) ?_
  rintro _ _ ⟨A9, c9, rfl, rfl⟩
  refine TL_freeze_osl ?_
  refine TF_end GivesTo.g ?_
  refine TF_anchor rfl ?_
  refine TL_append rfl rfl rfl rfl rfl slk (by omega) ?_
  intro A10 c10
  refine TF_end GivesTo.g ?_
  refine TF_y rfl rfl (Y_assign rfl) ?_
  refine TF_nil ?_
  refine T_region_draw (cells b1 (orderC x (A, c)) 65 :: []) [0, 0, 2, 6, 14, 31, 0, 64, 255, 511, 1023] [] [(0, true), (1, true), (2, true), (3, true), (6, true), (7, true), (4, false), (5, false), (8, false), (9, false), (10, true)] (by kernel_rfl) (by decide +kernel) GivesTo.g ?_
  refine TF_y rfl rfl (Y_move rfl) ?_
  refine TF_y rfl rfl (Y_field_addr rfl) ?_
  refine TF_y rfl rfl (Y_load rfl rfl) ?_
  refine TF_y rfl rfl (Y_conv rfl) ?_
  refine TF_name 14 (v' := .int .u64 ((x.epoch.toNat : Nat) : Int)) rfl (by rw [nat_of hr.2.2.1 (by decide)]) ?_
  refine TF_y rfl rfl (Y_field_addr rfl) ?_
  refine TF_y rfl rfl (Y_load rfl rfl) ?_
  refine TF_anchor rfl ?_
  refine TL_call rfl rfl (refUint_spec x.epoch.toNat (nat_lt hr.2.2.1 (by decide)) _) ?_
  rintro _ _ ⟨A15, c15, rfl, rfl⟩
  refine TL_freeze_osl ?_
  rw [show grp x.epoch.toNat = bNum x.epoch from rfl]
  refine TF_end GivesTo.g ?_
  refine TF_anchor rfl ?_
  refine TL_append rfl rfl rfl rfl rfl slk (by rw [List.length_append]; omega) ?_
  intro A16 c16
  refine TF_end GivesTo.g ?_
  refine TF_anchor rfl ?_
  refine TL_call rfl rfl (refVec_spec hr.2.2.2 slk) ?_
  rintro _ _ ⟨A19, c19, rfl, rfl⟩
  refine TL_freeze_osl ?_
  refine TF_end GivesTo.g ?_
  refine TF_anchor rfl ?_
  refine TL_append rfl rfl rfl rfl rfl slk (by simp only [List.length_append]; omega) ?_
  intro A20 c20
  rw [show txt x.token ++ txt x.cart ++ bNum x.epoch ++ bVec x.cut = bSeal x by simp [bSeal]]
  refine TF_end GivesTo.g ?_
  refine TF_y rfl rfl (Y_assign rfl) ?_
  refine TF_nil ?_
  refine T_ret ?_
  exact RetG_1 (.inl rfl) rfl (ResV.tmp rfl) GivesTo.g (⟨A20, c20, rfl, rfl⟩)
theorem grp_truth (b : Bool) : bTruth b = [if b then 1 else 0] := by cases b <;> (unfold bTruth bNum; rw [grp, if_pos (by decide)]; rfl)
theorem refTruth_spec (L : List HP) (b : Bool) : Fn Try.prog 118 #[.bool b] L (fun v L' => v = .int .u8 (if b then 1 else 0) ∧ L' = L) := by
  refine Fn_enter Try.func118 rfl rfl rfl rfl ?_
  refine T_region ?_
  refine TL_y rfl rfl (Y_assign rfl) ?_
  refine TL_nil ?_
  refine T_seq ?_
  refine T_region ?_
  refine TL_y rfl rfl (Y_move rfl) ?_
  refine TL_nil ?_
  refine T_cond rfl (fun h3 => ?_) (fun h3 => ?_)
  · refine T_region ?_
    refine TL_y rfl rfl (Y_assign rfl) ?_
    refine TL_nil ?_
    refine T_ret ?_
    refine thenS_ret ?_
    exact RetG_1 (.inl rfl) rfl (ResV.tmp rfl) GivesTo.g (⟨by rw [h3]; rfl, rfl⟩)
  · refine T_skip ?_
    refine thenS_normal ?_
    refine T_region ?_
    refine TL_y rfl rfl (Y_assign rfl) ?_
    refine TL_nil ?_
    refine T_ret ?_
    exact RetG_1 (.inl rfl) rfl (ResV.tmp rfl) GivesTo.g (⟨by rw [h3]; rfl, rfl⟩)
theorem one_u8 {L : List HP} {x : Int} (h : 0 ≤ x ∧ x ≤ 255) : Knows L (fun M => CellsOf M (intR .u8) [x] [.int .u8 x]) := one_cell (Knows.const fun M => ⟨rfl, u8In_mk h⟩)
theorem refEntry_spec {L : List HP} {A : Option Addr} {c : Nat} (e : EntryD) (hr : rEntry e) (hk : SlK L (intR .i64) A c e.order.cut) : Fn Try.prog 103 #[.agg (List.toArray (entryC e (A, c)))] L (fun v L' => ∃ A' c', v = .slice A' (bEntry e).length c' ∧ L' = osl (intR .u8) 5 A' c' (bEntry e) :: L) := by
  refine Fn_enter Try.func103 rfl rfl rfl rfl ?_
  refine T_gives hk.lay ?_
  refine T_region ?_
  refine TL_box rfl rfl rfl ?_
  intro b1
  refine TL_y rfl rfl (Y_assign rfl) ?_
  refine TL_nil ?_
  refine T_seq ?_
  refine T_region ?_
  refine TL_y rfl rfl (Y_field_addr rfl) ?_
  refine TL_y rfl rfl (Y_load rfl rfl) ?_
  refine TL_nil ?_
  refine T_cond rfl (fun h4 => ?_) (fun h4 => ?_)
  · refine T_region ?_
    refine TL_build_slice rfl rfl rfl rfl rfl rfl ?_
    intro b5
    refine TL_osl (k := 1) (intR .u8) [1] (one_u8 (by decide)) rfl (by decide) ?_
    refine TL_name 5 (v' := .slice (some ⟨b5, 0, none⟩) ([1] : List Int).length 1) rfl rfl ?_
    refine TL_y rfl rfl (Y_assign rfl) ?_
    refine TL_nil ?_
    refine T_ret ?_
    refine thenS_ret ?_
    rw [show ([1] : List Int) = bEntry e by unfold bEntry; rw [if_pos h4, h4, grp_truth]; rfl]
    exact RetG_1 (.inl rfl) rfl (ResV.tmp rfl) GivesTo.g (⟨_, _, rfl, rfl⟩)
  · refine T_skip ?_
    refine thenS_normal ?_
    refine T_region ?_
    refine TL_build_slice rfl rfl rfl rfl rfl rfl ?_
    intro b6
    refine TL_osl (k := 1) (intR .u8) [0] (one_u8 (by decide)) rfl (by decide) ?_
    refine TL_name 6 (v' := .slice (some ⟨b6, 0, none⟩) ([0] : List Int).length 1) rfl rfl ?_
    have hrs : rSeal e.order := by unfold rEntry at hr; rwa [if_neg (by simp [h4])] at hr
    have hsl := bSeal_len hrs
    refine TL_y rfl rfl (Y_field_addr rfl) ?_
    refine TL_y rfl rfl (Y_load_agg rfl rfl) ?_
    refine TL_call rfl rfl (refSealW_spec e.order hrs slk) ?_
    rintro _ _ ⟨A9, c9, rfl, rfl⟩
    refine TL_freeze_osl ?_
    refine TL_append rfl rfl rfl rfl rfl slk (by simp only [List.length_cons, List.length_nil]; omega) ?_
    intro A10 c10
    refine TL_y rfl rfl (Y_assign rfl) ?_
    refine TL_nil ?_
    refine T_ret ?_
    rw [show ([0] : List Int) ++ bSeal e.order = bEntry e by unfold bEntry; rw [if_neg (by simp [h4]), h4, grp_truth]; rfl]
    exact RetG_1 (.inl rfl) rfl (ResV.tmp rfl) GivesTo.g (⟨A10, c10, rfl, rfl⟩)
theorem refEvent_spec {L : List HP} {A : Option Addr} {c : Nat} (x : EventD) (hr : rEvent x) (hk : SlK L (intR .i64) A c x.deps) : Fn Try.prog 105 #[.agg (List.toArray (eventC x (A, c)))] L (fun v L' => ∃ A' c', v = .slice A' (bEvent x).length c' ∧ L' = osl (intR .u8) 5 A' c' (bEvent x) :: L) := by
  have hl := bEvent_len hr
  obtain ⟨r1, r2, r3, r4, r5, r6, r7⟩ := hr
  have s4 := r4.2.2; have s6 := r6.2.2
  have a1 := bNum_len r1 (by decide); have a2 := bNum_len r2 (by decide); have a3 := bVec_len r3; have a4 := txt_len r4; have a5 := bNum_len r5 (by decide); have a6 := txt_len r6; have a7 := bNum_len r7 (by decide)
  refine Fn_enter Try.func105 rfl rfl rfl rfl ?_
  refine T_gives hk.lay ?_
  refine T_region ?_
  refine TL_box rfl rfl rfl ?_
  intro b1
  refine TL_y rfl rfl (Y_assign rfl) ?_
  refine TL_nil ?_
  refine T_region_draw _ [0, 1, 3, 7, 15, 0, 32, 96, 224, 511, 1023, 2047] [] [(0, true), (1, true), (2, true), (3, true), (5, true), (6, true), (7, true), (8, true), (4, false), (9, false), (10, false), (11, true)] (by kernel_rfl) (by decide +kernel) (Gives.refl _) ?_
  refine TF_y rfl rfl (Y_field_addr rfl) ?_
  refine TF_y rfl rfl (Y_field_addr rfl) ?_
  refine TF_y rfl rfl (Y_load rfl rfl) ?_
  refine TF_y rfl rfl (Y_conv rfl) ?_
  refine TF_name 7 (v' := .int .u64 ((x.dot.1.toNat : Nat) : Int)) rfl (by rw [nat_of r1 (by decide)]) ?_
  refine TF_y rfl rfl (Y_field_addr rfl) ?_
  refine TF_y rfl rfl (Y_field_addr rfl) ?_
  refine TF_y rfl rfl (Y_load rfl rfl) ?_
  refine TF_y rfl rfl (Y_conv rfl) ?_
  refine TF_name 12 (v' := .int .u64 ((x.dot.2.toNat : Nat) : Int)) rfl (by rw [nat_of r2 (by decide)]) ?_
  refine TF_anchor rfl ?_
  refine TL_call rfl rfl (refUint_spec x.dot.1.toNat (nat_lt r1 (by decide)) _) ?_
  rintro _ _ ⟨A8, c8, rfl, rfl⟩
  rw [show grp x.dot.1.toNat = bNum x.dot.1 from rfl]
  refine TF_end GivesTo.g ?_
  refine TF_anchor rfl ?_
  refine TL_call rfl rfl (refUint_spec x.dot.2.toNat (nat_lt r2 (by decide)) _) ?_
  rintro _ _ ⟨A13, c13, rfl, rfl⟩
  refine TL_freeze_osl ?_
  rw [show grp x.dot.2.toNat = bNum x.dot.2 from rfl]
  refine TF_end GivesTo.g ?_
  refine TF_anchor rfl ?_
  refine TL_append rfl rfl rfl rfl rfl slk (by omega) ?_
  intro A14 c14
  refine TF_end GivesTo.g ?_
  refine TF_y rfl rfl (Y_assign rfl) ?_
  refine TF_nil ?_
  refine T_region_draw (cells b1 (eventC x (A, c)) 75 :: []) [0, 0, 2, 6, 15, 0, 32, 127, 255, 511] [] [(0, true), (1, true), (2, true), (5, true), (6, true), (3, false), (4, false), (7, false), (8, false), (9, true)] (by kernel_rfl) (by decide +kernel) GivesTo.g ?_
  refine TF_y rfl rfl (Y_move rfl) ?_
  refine TF_y rfl rfl (Y_field_addr rfl) ?_
  refine TF_y rfl rfl (Y_load rfl rfl) ?_
  refine TF_y rfl rfl (Y_field_addr rfl) ?_
  refine TF_y rfl rfl (Y_load rfl rfl) ?_
  refine TF_anchor rfl ?_
  refine TL_call rfl rfl (refVec_spec r3 slk) ?_
  rintro _ _ ⟨A18, c18, rfl, rfl⟩
  refine TL_freeze_osl ?_
  refine TF_end GivesTo.g ?_
  refine TF_anchor rfl ?_
  refine TL_append rfl rfl rfl rfl rfl slk (by simp only [List.length_append]; omega) ?_
  intro A19 c19
  refine TF_end GivesTo.g ?_
  refine TF_anchor rfl ?_
  refine TL_call rfl rfl (refText_spec _ x.cart (by omega)) ?_
  rintro _ _ ⟨A22, c22, rfl, rfl⟩
  refine TL_freeze_osl ?_
  refine TF_end GivesTo.g ?_
  refine TF_anchor rfl ?_
  refine TL_append rfl rfl rfl rfl rfl slk (by simp only [List.length_append]; omega) ?_
  intro A23 c23
  refine TF_end GivesTo.g ?_
  refine TF_y rfl rfl (Y_assign rfl) ?_
  refine TF_nil ?_
  refine T_region_draw (cells b1 (eventC x (A, c)) 75 :: []) [0, 0, 2, 6, 14, 31, 0, 64, 255, 511, 1023] [] [(0, true), (1, true), (2, true), (3, true), (6, true), (7, true), (4, false), (5, false), (8, false), (9, false), (10, true)] (by kernel_rfl) (by decide +kernel) GivesTo.g ?_
  refine TF_y rfl rfl (Y_move rfl) ?_
  refine TF_y rfl rfl (Y_field_addr rfl) ?_
  refine TF_y rfl rfl (Y_load rfl rfl) ?_
  refine TF_y rfl rfl (Y_conv rfl) ?_
  refine TF_name 27 (v' := .int .u64 ((x.epoch.toNat : Nat) : Int)) rfl (by rw [nat_of r5 (by decide)]) ?_
  refine TF_y rfl rfl (Y_field_addr rfl) ?_
  refine TF_y rfl rfl (Y_load rfl rfl) ?_
  refine TF_anchor rfl ?_
  refine TL_call rfl rfl (refUint_spec x.epoch.toNat (nat_lt r5 (by decide)) _) ?_
  rintro _ _ ⟨A28, c28, rfl, rfl⟩
  refine TL_freeze_osl ?_
  rw [show grp x.epoch.toNat = bNum x.epoch from rfl]
  refine TF_end GivesTo.g ?_
  refine TF_anchor rfl ?_
  refine TL_append rfl rfl rfl rfl rfl slk (by simp only [List.length_append]; omega) ?_
  intro A29 c29
  refine TF_end GivesTo.g ?_
  refine TF_anchor rfl ?_
  refine TL_call rfl rfl (refText_spec _ x.sku (by omega)) ?_
  rintro _ _ ⟨A32, c32, rfl, rfl⟩
  refine TL_freeze_osl ?_
  refine TF_end GivesTo.g ?_
  refine TF_anchor rfl ?_
  refine TL_append rfl rfl rfl rfl rfl slk (by simp only [List.length_append]; omega) ?_
  intro A33 c33
  refine TF_end GivesTo.g ?_
  refine TF_y rfl rfl (Y_assign rfl) ?_
  refine TF_nil ?_
  refine T_region_draw (cells b1 (eventC x (A, c)) 75 :: []) [0, 0, 2, 6, 14, 31, 0, 64, 255, 511, 1023, 2047] [] [(0, true), (1, true), (2, true), (3, true), (6, true), (7, true), (4, false), (5, false), (8, false), (9, false), (10, false), (11, true)] (by kernel_rfl) (by decide +kernel) GivesTo.g ?_
  refine TF_y rfl rfl (Y_move rfl) ?_
  refine TF_y rfl rfl (Y_field_addr rfl) ?_
  refine TF_y rfl rfl (Y_load rfl rfl) ?_
  refine TF_y rfl rfl (Y_conv rfl) ?_
  refine TF_name 37 (v' := .int .u64 ((x.qty.toNat : Nat) : Int)) rfl (by rw [nat_of r7 (by decide)]) ?_
  refine TF_y rfl rfl (Y_field_addr rfl) ?_
  refine TF_y rfl rfl (Y_load rfl rfl) ?_
  refine TF_anchor rfl ?_
  refine TL_call rfl rfl (refUint_spec x.qty.toNat (nat_lt r7 (by decide)) _) ?_
  rintro _ _ ⟨A38, c38, rfl, rfl⟩
  refine TL_freeze_osl ?_
  rw [show grp x.qty.toNat = bNum x.qty from rfl]
  refine TF_end GivesTo.g ?_
  refine TF_anchor rfl ?_
  refine TL_append rfl rfl rfl rfl rfl slk (by simp only [List.length_append]; omega) ?_
  intro A39 c39
  refine TF_end GivesTo.g ?_
  refine TF_anchor rfl ?_
  refine TL_call rfl rfl (refTruth_spec _ x.clears) ?_
  rintro _ _ ⟨rfl, rfl⟩
  refine TF_end GivesTo.g ?_
  refine TF_anchor rfl ?_
  refine TL_build_slice rfl rfl rfl rfl rfl rfl ?_
  intro b43
  refine TL_osl (k := 1) (intR .u8) [if x.clears then 1 else 0] (one_u8 (by split <;> decide)) rfl (by decide) ?_
  refine TL_freeze_osl ?_
  refine TL_name 43 (v' := .slice (some ⟨b43, 0, none⟩) ([if x.clears then 1 else 0] : List Int).length 1) rfl rfl ?_
  refine TF_end GivesTo.g ?_
  refine TF_anchor rfl ?_
  refine TL_append rfl rfl rfl rfl rfl slk (by simp only [List.length_append, List.length_cons, List.length_nil]; omega) ?_
  intro A44 c44
  refine TF_end GivesTo.g ?_
  refine TF_y rfl rfl (Y_assign rfl) ?_
  refine TF_nil ?_
  refine T_ret ?_
  rw [show bNum x.dot.1 ++ bNum x.dot.2 ++ bVec x.deps ++ txt x.cart ++ bNum x.epoch ++ txt x.sku ++ bNum x.qty ++ [if x.clears then 1 else 0] = bEvent x by rw [← grp_truth]; simp [bEvent]]
  exact RetG_1 (.inl rfl) rfl (ResV.tmp rfl) GivesTo.g (⟨A44, c44, rfl, rfl⟩)
end Go.SL
