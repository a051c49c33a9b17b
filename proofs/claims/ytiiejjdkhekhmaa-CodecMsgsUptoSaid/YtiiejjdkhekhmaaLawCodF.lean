/- The walk of the law on messages. -/
import Derived.Test.YtiiejjdkhekhmaaRefW
import Derived.Test.YtiiejjdkhekhmaaLawCodE
set_option linter.unusedVariables false
set_option linter.unusedSimpArgs false
namespace Go.SL
open Go Go.Proofs
theorem ent_off {m : MsgD} : True := trivial
/-- What is written ahead of the votes. -/
def bHead (m : MsgD) : List Int := bNum m.kind ++ bNum m.frm ++ bNum m.to_ ++ bBal m.bal ++ bNum m.slot ++ bEntry m.en ++ bNum (m.voted.length : Int)
theorem bMsg_split (m : MsgD) : bMsg m = bHead m ++ bAll bVoted m.voted ++ bVec m.seen ++ bNum (m.events.length : Int) ++ bAll bEvent m.events ++ bNum m.time := by simp [bMsg, bHead]
theorem refMsgW_spec {L : List HP} (m : MsgD) (p : MsgP) (hr : rMsg m) (hk : MsgK L m p) : Fn Try.prog 78 #[msgV m p] L (fun v L' => ∃ A' c', v = .slice A' (bMsg m).length c' ∧ L' = osl (intR .u8) 5 A' c' (bMsg m) :: L) := by
  obtain ⟨r1, r2, r3, r4, r5, r6, ⟨r7, r8⟩, r9, ⟨ra, rb⟩, rc⟩ := hr
  have a1 := bNum_len r1 (by decide); have a2 := bNum_len r2 (by decide); have a3 := bNum_len r3 (by decide); have a4 := bBal_len r4; have a5 := bNum_len r5 (by decide); have a6 := bEntry_len r6
  have a7 := bNum_len (n := (m.voted.length : Int)) (most := 4096) (by unfold rNum; omega) (by decide)
  have a8 := bAll_len (b := bVoted) (k := 214) (l := m.voted) (fun x hx => bVoted_len (r8 x hx))
  have a9 := bVec_len r9
  have aa := bNum_len (n := (m.events.length : Int)) (most := 4096) (by unfold rNum; omega) (by decide)
  have ab := bAll_len (b := bEvent) (k := 214) (l := m.events) (fun x hx => bEvent_len (rb x hx))
  have ac := bNum_len rc (by decide)
  refine Fn_enter Try.func78 rfl rfl rfl rfl ?_
  refine T_gives (MsgK.lay hk) ?_
  refine T_region ?_
  refine TL_box rfl rfl rfl ?_
  intro b1
  refine TL_y rfl rfl (Y_assign rfl) ?_
  refine TL_nil ?_
  refine T_region_draw _ [0, 1, 3, 7, 0, 16, 48, 127, 255, 0, 512, 1536, 4095, 8191, 16383] [] [(0, true), (1, true), (2, true), (4, true), (5, true), (6, true), (9, true), (10, true), (11, true), (3, false), (7, false), (8, false), (12, false), (13, false), (14, true)] (by kernel_rfl) (by decide +kernel) (Gives.refl _) ?_
  refine TF_y rfl rfl (Y_field_addr rfl) ?_
  refine TF_y rfl rfl (Y_load rfl rfl) ?_
  refine TF_y rfl rfl (Y_conv rfl) ?_
  refine TF_name 8 (v' := .int .u64 ((m.kind.toNat : Nat) : Int)) rfl (by rw [nat_of r1 (by decide)]) ?_
  refine TF_y rfl rfl (Y_field_addr rfl) ?_
  refine TF_y rfl rfl (Y_load rfl rfl) ?_
  refine TF_y rfl rfl (Y_conv rfl) ?_
  refine TF_name 12 (v' := .int .u64 ((m.frm.toNat : Nat) : Int)) rfl (by rw [nat_of r2 (by decide)]) ?_
  refine TF_y rfl rfl (Y_field_addr rfl) ?_
  refine TF_y rfl rfl (Y_load rfl rfl) ?_
  refine TF_y rfl rfl (Y_conv rfl) ?_
  refine TF_name 17 (v' := .int .u64 ((m.to_.toNat : Nat) : Int)) rfl (by rw [nat_of r3 (by decide)]) ?_
  refine TF_anchor rfl ?_
  refine TL_call rfl rfl (refUint_spec m.kind.toNat (nat_lt r1 (by decide)) _) ?_
  rintro _ _ ⟨A9, c9, rfl, rfl⟩
  rw [show grp m.kind.toNat = bNum m.kind from rfl]
  refine TF_end GivesTo.g ?_
  refine TF_anchor rfl ?_
  refine TL_call rfl rfl (refUint_spec m.frm.toNat (nat_lt r2 (by decide)) _) ?_
  rintro _ _ ⟨A13, c13, rfl, rfl⟩
  refine TL_freeze_osl ?_
  rw [show grp m.frm.toNat = bNum m.frm from rfl]
  refine TF_end GivesTo.g ?_
  refine TF_anchor rfl ?_
  refine TL_append rfl rfl rfl rfl rfl slk (by omega) ?_
  intro A14 c14
  refine TF_end GivesTo.g ?_
  refine TF_anchor rfl ?_
  refine TL_call rfl rfl (refUint_spec m.to_.toNat (nat_lt r3 (by decide)) _) ?_
  rintro _ _ ⟨A18, c18, rfl, rfl⟩
  refine TL_freeze_osl ?_
  rw [show grp m.to_.toNat = bNum m.to_ from rfl]
  refine TF_end GivesTo.g ?_
  refine TF_anchor rfl ?_
  refine TL_append rfl rfl rfl rfl rfl slk (by simp only [List.length_append]; omega) ?_
  intro A19 c19
  refine TF_end GivesTo.g ?_
  refine TF_y rfl rfl (Y_assign rfl) ?_
  refine TF_nil ?_
  refine T_region_draw (cells b1 (msgC m p) 71 :: []) [0, 0, 2, 6, 15, 0, 32, 96, 255, 511, 0, 1024, 4095, 8191, 16383] [] [(0, true), (1, true), (2, true), (5, true), (6, true), (7, true), (10, true), (11, true), (3, false), (4, false), (8, false), (9, false), (12, false), (13, false), (14, true)] (by kernel_rfl) (by decide +kernel) GivesTo.g ?_
  refine TF_y rfl rfl (Y_move rfl) ?_
  refine TF_y rfl rfl (Y_field_addr rfl) ?_
  refine TF_y rfl rfl (Y_load_agg rfl rfl) ?_
  refine TF_y rfl rfl (Y_field_addr rfl) ?_
  refine TF_y rfl rfl (Y_load rfl rfl) ?_
  refine TF_y rfl rfl (Y_conv rfl) ?_
  refine TF_name 27 (v' := .int .u64 ((m.slot.toNat : Nat) : Int)) rfl (by rw [nat_of r5 (by decide)]) ?_
  refine TF_y rfl rfl (Y_field_addr rfl) ?_
  refine TF_y rfl rfl (Y_load_agg rfl rfl) ?_
  refine TF_anchor rfl ?_
  refine TL_call rfl rfl (refBallot_spec m.bal r4) ?_
  rintro _ _ ⟨A23, c23, rfl, rfl⟩
  refine TL_freeze_osl ?_
  refine TF_end GivesTo.g ?_
  refine TF_anchor rfl ?_
  refine TL_append rfl rfl rfl rfl rfl slk (by simp only [List.length_append]; omega) ?_
  intro A24 c24
  refine TF_end GivesTo.g ?_
  refine TF_anchor rfl ?_
  refine TL_call rfl rfl (refUint_spec m.slot.toNat (nat_lt r5 (by decide)) _) ?_
  rintro _ _ ⟨A28, c28, rfl, rfl⟩
  refine TL_freeze_osl ?_
  rw [show grp m.slot.toNat = bNum m.slot from rfl]
  refine TF_end GivesTo.g ?_
  refine TF_anchor rfl ?_
  refine TL_append rfl rfl rfl rfl rfl slk (by simp only [List.length_append]; omega) ?_
  intro A29 c29
  refine TF_end GivesTo.g ?_
  refine TF_anchor rfl ?_
  refine TL_call rfl rfl (refEntry_spec m.en r6 slk) ?_
  rintro _ _ ⟨A32, c32, rfl, rfl⟩
  refine TL_freeze_osl ?_
  refine TF_end GivesTo.g ?_
  refine TF_anchor rfl ?_
  refine TL_append rfl rfl rfl rfl rfl slk (by simp only [List.length_append]; omega) ?_
  intro A33 c33
  refine TF_end GivesTo.g ?_
  refine TF_y rfl rfl (Y_assign rfl) ?_
  refine TF_nil ?_
  refine T_region ?_
  refine TL_y rfl rfl (Y_move rfl) ?_
  refine TL_y rfl rfl (Y_field_addr rfl) ?_
  refine TL_y rfl rfl (Y_load rfl rfl) ?_
  refine TL_y rfl rfl (Y_len rfl) ?_
  refine TL_y rfl rfl (Y_conv rfl) ?_
  refine TL_name 38 (v' := .int .u64 ((m.voted.length : Nat) : Int)) rfl (by rw [u64_small (by omega)]) ?_
  refine TL_call rfl rfl (refUint_spec m.voted.length (by omega) _) ?_
  rintro _ _ ⟨A39, c39, rfl, rfl⟩
  refine TL_freeze_osl ?_
  rw [show grp m.voted.length = bNum (m.voted.length : Int) by simp [bNum]]
  refine TL_append rfl rfl rfl rfl rfl slk (by simp only [List.length_append]; omega) ?_
  intro A40 c40
  rw [show bNum m.kind ++ bNum m.frm ++ bNum m.to_ ++ bBal m.bal ++ bNum m.slot ++ bEntry m.en ++ bNum (m.voted.length : Int) = bHead m ++ bAll bVoted (m.voted.take 0) by simp [bHead, bAll]]
  have ah : (bHead m).length ≤ 254 := by unfold bHead; simp only [List.length_append]; omega
  refine TL_y rfl rfl (Y_assign rfl) ?_
  refine TL_nil ?_
  refine T_seq ?_
  refine T_region ?_
  refine TL_y rfl rfl (Y_assign rfl) ?_
  refine TL_nil ?_
  refine T_block ?_
  refine T_loopK (σ := LpSt1) [1] (fun g => g.i ≤ m.voted.length) (fun g kv => (4, .int .i64 (g.i : Int)) :: (3, .slice g.A (bHead m ++ bAll bVoted (m.voted.take g.i)).length g.c) :: kv) (fun g => osl (intR .u8) 5 g.A g.c (bHead m ++ bAll bVoted (m.voted.take g.i)) :: cells b1 (msgC m p) 71 :: mL m p L) (fun g => m.voted.length - g.i) (⟨0, A40, c40⟩) rfl (Nat.zero_le _) (GivesTo.g) (sub_cons rfl (sub_cons rfl (sub_cons rfl (sub_nil)))) ?_
  rintro ⟨i, A2, c2⟩ hi
  dsimp only at hi ⊢
  refine T_seq ?_
  refine T_region ?_
  refine TL_y rfl rfl (Y_move rfl) ?_
  refine TL_y rfl rfl (Y_field_addr rfl) ?_
  refine TL_y rfl rfl (Y_load rfl rfl) ?_
  refine TL_y rfl rfl (Y_len rfl) ?_
  refine TL_y rfl rfl (Y_lt rfl rfl) ?_
  refine TL_nil ?_
  refine T_if rfl (fun h45 => ?_) (fun h45 => ?_)
  · refine T_skip ?_
    refine thenS_normal ?_
    refine T_seq ?_
    refine T_block ?_
    obtain ⟨u, hu⟩ : ∃ u, m.voted[i]? = some u := ⟨_, List.getElem?_eq_getElem (by omega)⟩
    have hru := r8 u (List.mem_of_getElem? hu)
    have q1 := bNum_len hru.1 (by decide)
    have q2 := bBal_len hru.2.1
    have q3 := bEntry_len hru.2.2
    have hla := bAll_len (b := bVoted) (k := 214) (l := m.voted.take i) (fun x hx => bVoted_len (r8 x (List.mem_of_mem_take hx)))
    have hlt : (m.voted.take i).length ≤ 4096 := by rw [List.length_take]; omega
    refine T_at (slk (A := p.voted.1) (c := p.voted.2)) hu fun bq oq lq haq => ?_
    refine T_ex fun pq okq => ?_
    simp only [List.cons_append, List.nil_append]
    refine T_region_draw_last (cells b1 (msgC m p) 71 :: row bq oq (votedC u pq) :: []) [0, 0, 2, 0, 14, 30, 62, 126, 254, 511, 0, 1024, 0, 7168, 15360, 31744, 65535, 131071, 0, 262144, 0, 1835008, 3932160, 8126464, 16777215, 33554431, 67108863] [] [(0, true), (1, true), (2, true), (3, true), (4, true), (5, true), (6, true), (7, true), (10, true), (11, true), (12, true), (13, true), (14, true), (15, true), (18, true), (19, true), (20, true), (21, true), (22, true), (23, true), (8, false), (9, false), (16, false), (17, false), (24, false), (25, false), (26, true)] (by kernel_rfl) (by decide +kernel) GivesTo.g ?_
    refine TF_y rfl rfl (Y_move rfl) ?_
    refine TF_y rfl rfl (Y_field_addr rfl) ?_
    refine TF_y rfl rfl (Y_load rfl rfl) ?_
    refine TF_y rfl rfl (Y_move rfl) ?_
    refine TF_y rfl rfl (Y_index_at rfl rfl (by omega) haq) ?_
    refine TF_y rfl rfl (Y_field_addr2 rfl) ?_
    refine TF_y rfl rfl (Y_load_row rfl rfl) ?_
    refine TF_y rfl rfl (Y_conv rfl) ?_
    refine TF_name 55 (v' := .int .u64 ((u.slot.toNat : Nat) : Int)) rfl (by rw [nat_of hru.1 (by decide)]) ?_
    refine TF_y rfl rfl (Y_field_addr rfl) ?_
    refine TF_y rfl rfl (Y_load rfl rfl) ?_
    refine TF_y rfl rfl (Y_move rfl) ?_
    refine TF_y rfl rfl (Y_index_at rfl rfl (by omega) haq) ?_
    refine TF_y rfl rfl (Y_field_addr2 rfl) ?_
    refine TF_y rfl rfl (Y_load_row_agg (vs := [.int .i64 u.bal.1, .int .i64 u.bal.2]) rfl rfl) ?_
    refine TF_y rfl rfl (Y_field_addr rfl) ?_
    refine TF_y rfl rfl (Y_load rfl rfl) ?_
    refine TF_y rfl rfl (Y_move rfl) ?_
    refine TF_y rfl rfl (Y_index_at rfl rfl (by omega) haq) ?_
    refine TF_y rfl rfl (Y_field_addr2 rfl) ?_
    refine TF_y rfl rfl (Y_load_row_agg (vs := entryC u.en pq) rfl rfl) ?_
    refine TF_anchor rfl ?_
    refine TL_call rfl rfl (refUint_spec u.slot.toNat (nat_lt hru.1 (by decide)) _) ?_
    rintro _ _ ⟨A56, c56, rfl, rfl⟩
    refine TL_freeze_osl ?_
    rw [show grp u.slot.toNat = bNum u.slot from rfl]
    refine TF_end GivesTo.g ?_
    refine TF_anchor rfl ?_
    refine TL_append rfl rfl rfl rfl rfl slk (by simp only [List.length_append]; omega) ?_
    intro A57 c57
    refine TF_end GivesTo.g ?_
    refine TF_anchor rfl ?_
    refine TL_call rfl rfl (refBallot_spec u.bal hru.2.1) ?_
    rintro _ _ ⟨A64, c64, rfl, rfl⟩
    refine TL_freeze_osl ?_
    refine TF_end GivesTo.g ?_
    refine TF_anchor rfl ?_
    refine TL_append rfl rfl rfl rfl rfl slk (by simp only [List.length_append]; omega) ?_
    intro A65 c65
    refine TF_end GivesTo.g ?_
    refine TF_anchor rfl ?_
    refine TL_call rfl rfl (refEntry_spec u.en hru.2.2 slk) ?_
    rintro _ _ ⟨A72, c72, rfl, rfl⟩
    refine TL_freeze_osl ?_
    refine TF_end GivesTo.g ?_
    refine TF_anchor rfl ?_
    refine TL_append rfl rfl rfl rfl rfl slk (by simp only [List.length_append]; omega) ?_
    intro A73 c73
    rw [show bHead m ++ bAll bVoted (m.voted.take i) ++ bNum u.slot ++ bBal u.bal ++ bEntry u.en = bHead m ++ bAll bVoted (m.voted.take (i + 1)) by rw [take_at hu, bAll_snoc]; simp [bVoted]]
    refine TF_end GivesTo.g ?_
    refine TF_y rfl rfl (Y_assign rfl) ?_
    refine TF_nil ?_
    refine inB_normal ?_
    refine thenS_normal ?_
    refine T_region_last ?_
    refine TL_y rfl rfl (Y_move rfl) ?_
    refine TL_y rfl rfl (Y_add rfl rfl (by omega)) ?_
    refine TL_name 47 (v' := .int .i64 ((i + 1 : Nat) : Int)) rfl (rfl) ?_
    refine TL_y rfl rfl (Y_assign rfl) ?_
    refine TL_nil ?_
    refine thenS_normal ?_
    exact ⟨⟨i + 1, A73, c73⟩, (by simp only; omega), by simp only; omega, holds_to (sub_cons rfl (sub_cons rfl (sub_cons rfl (sub_nil)))) GivesTo.g⟩
  · refine T_exit ?_
    refine thenS_exit ?_
    refine thenS_exit ?_
    refine inB_hit ?_
    refine thenS_normal ?_
    have e0 : m.voted.take i = m.voted := List.take_of_length_le (by omega)
    rw [e0]
    refine T_region_draw (cells b1 (msgC m p) 71 :: []) [0, 0, 2, 6, 15, 0, 32, 96, 224, 511, 1023, 2047] [] [(0, true), (1, true), (2, true), (5, true), (6, true), (7, true), (8, true), (3, false), (4, false), (9, false), (10, false), (11, true)] (by kernel_rfl) (by decide +kernel) GivesTo.g ?_
    refine TF_y rfl rfl (Y_move rfl) ?_
    refine TF_y rfl rfl (Y_field_addr rfl) ?_
    refine TF_y rfl rfl (Y_load rfl rfl) ?_
    refine TF_y rfl rfl (Y_field_addr rfl) ?_
    refine TF_y rfl rfl (Y_load rfl rfl) ?_
    refine TF_y rfl rfl (Y_len rfl) ?_
    refine TF_y rfl rfl (Y_conv rfl) ?_
    refine TF_name 82 (v' := .int .u64 ((m.events.length : Nat) : Int)) rfl (by rw [u64_small (by omega)]) ?_
    refine TF_anchor rfl ?_
    refine TL_call rfl rfl (refVec_spec r9 slk) ?_
    rintro _ _ ⟨A77, c77, rfl, rfl⟩
    refine TL_freeze_osl ?_
    refine TF_end GivesTo.g ?_
    refine TF_anchor rfl ?_
    refine TL_append rfl rfl rfl rfl rfl slk (by simp only [List.length_append]; omega) ?_
    intro A78 c78
    refine TF_end GivesTo.g ?_
    refine TF_anchor rfl ?_
    refine TL_call rfl rfl (refUint_spec m.events.length (by omega) _) ?_
    rintro _ _ ⟨A83, c83, rfl, rfl⟩
    refine TL_freeze_osl ?_
    rw [show grp m.events.length = bNum (m.events.length : Int) by simp [bNum]]
    refine TF_end GivesTo.g ?_
    refine TF_anchor rfl ?_
    refine TL_append rfl rfl rfl rfl rfl slk (by simp only [List.length_append]; omega) ?_
    intro A84 c84
    rw [show bHead m ++ bAll bVoted m.voted ++ bVec m.seen ++ bNum (m.events.length : Int) = bHead m ++ bAll bVoted m.voted ++ bVec m.seen ++ bNum (m.events.length : Int) ++ bAll bEvent (m.events.take 0) by simp [bAll]]
    refine TF_end GivesTo.g ?_
    refine TF_y rfl rfl (Y_assign rfl) ?_
    refine TF_nil ?_
    refine T_seq ?_
    refine T_region ?_
    refine TL_y rfl rfl (Y_assign rfl) ?_
    refine TL_nil ?_
    refine T_block ?_
    refine T_loopK (σ := LpSt1) [1] (fun g => g.i ≤ m.events.length) (fun g kv => (5, .int .i64 (g.i : Int)) :: (3, .slice g.A (bHead m ++ bAll bVoted m.voted ++ bVec m.seen ++ bNum (m.events.length : Int) ++ bAll bEvent (m.events.take g.i)).length g.c) :: kv) (fun g => osl (intR .u8) 5 g.A g.c (bHead m ++ bAll bVoted m.voted ++ bVec m.seen ++ bNum (m.events.length : Int) ++ bAll bEvent (m.events.take g.i)) :: cells b1 (msgC m p) 71 :: mL m p L) (fun g => m.events.length - g.i) (⟨0, A84, c84⟩) rfl (Nat.zero_le _) (GivesTo.g) (sub_cons rfl (sub_cons rfl (sub_cons rfl (sub_nil)))) ?_
    rintro ⟨j, A3, c3⟩ hj
    dsimp only at hj ⊢
    refine T_seq ?_
    refine T_region ?_
    refine TL_y rfl rfl (Y_move rfl) ?_
    refine TL_y rfl rfl (Y_field_addr rfl) ?_
    refine TL_y rfl rfl (Y_load rfl rfl) ?_
    refine TL_y rfl rfl (Y_len rfl) ?_
    refine TL_y rfl rfl (Y_lt rfl rfl) ?_
    refine TL_nil ?_
    refine T_if rfl (fun h89 => ?_) (fun h89 => ?_)
    · refine T_skip ?_
      refine thenS_normal ?_
      refine T_seq ?_
      refine T_block ?_
      refine T_region_last ?_
      refine TL_y rfl rfl (Y_move rfl) ?_
      refine TL_y rfl rfl (Y_field_addr rfl) ?_
      refine TL_y rfl rfl (Y_load rfl rfl) ?_
      refine TL_y rfl rfl (Y_move rfl) ?_
      obtain ⟨u, hu⟩ : ∃ u, m.events[j]? = some u := ⟨_, List.getElem?_eq_getElem (by omega)⟩
      have hru := rb u (List.mem_of_getElem? hu)
      have q1 := bEvent_len hru
      have hla := bAll_len (b := bEvent) (k := 214) (l := m.events.take j) (fun x hx => bEvent_len (rb x (List.mem_of_mem_take hx)))
      have hlt : (m.events.take j).length ≤ 4096 := by rw [List.length_take]; omega
      refine TL_index_n rfl rfl rfl (rfl) (sln) (hu) ?_
      intro bn96 on96 hA96 hk96
      have hu96 := hu
      refine TL_load_nx rfl rfl hk96 hu96 (fun _ => rfl) ?_
      intro p97 ok97
      simp only [List.cons_append, List.nil_append]
      refine TL_call rfl rfl (refEvent_spec u hru slk) ?_
      rintro _ _ ⟨A98, c98, rfl, rfl⟩
      refine TL_freeze_osl ?_
      refine TL_append rfl rfl rfl rfl rfl slk (by simp only [List.length_append]; omega) ?_
      intro A99 c99
      rw [List.append_assoc _ (bAll bEvent (m.events.take j)), show bAll bEvent (m.events.take j) ++ bEvent u = bAll bEvent (m.events.take (j + 1)) by rw [take_at hu, bAll_snoc]]
      refine TL_y rfl rfl (Y_assign rfl) ?_
      refine TL_nil ?_
      refine inB_normal ?_
      refine thenS_normal ?_
      refine T_region_last ?_
      refine TL_y rfl rfl (Y_move rfl) ?_
      refine TL_y rfl rfl (Y_add rfl rfl (by omega)) ?_
      refine TL_name 91 (v' := .int .i64 ((j + 1 : Nat) : Int)) rfl (rfl) ?_
      refine TL_y rfl rfl (Y_assign rfl) ?_
      refine TL_nil ?_
      refine thenS_normal ?_
      exact ⟨⟨j + 1, A99, c99⟩, (by simp only; omega), by simp only; omega, holds_to (sub_cons rfl (sub_cons rfl (sub_cons rfl (sub_nil)))) GivesTo.g⟩
    · refine T_exit ?_
      refine thenS_exit ?_
      refine thenS_exit ?_
      refine inB_hit ?_
      refine thenS_normal ?_
      have e1 : m.events.take j = m.events := List.take_of_length_le (by omega)
      rw [e1]
      refine T_region ?_
      refine TL_y rfl rfl (Y_move rfl) ?_
      refine TL_y rfl rfl (Y_field_addr rfl) ?_
      refine TL_y rfl rfl (Y_load rfl rfl) ?_
      refine TL_y rfl rfl (Y_conv rfl) ?_
      refine TL_name 103 (v' := .int .u64 ((m.time.toNat : Nat) : Int)) rfl (by rw [nat_of rc (by decide)]) ?_
      refine TL_call rfl rfl (refUint_spec m.time.toNat (nat_lt rc (by decide)) _) ?_
      rintro _ _ ⟨A104, c104, rfl, rfl⟩
      refine TL_freeze_osl ?_
      rw [show grp m.time.toNat = bNum m.time from rfl]
      refine TL_append rfl rfl rfl rfl rfl slk (by simp only [List.length_append]; omega) ?_
      intro A105 c105
      refine TL_y rfl rfl (Y_assign rfl) ?_
      refine TL_nil ?_
      refine T_ret ?_
      rw [← bMsg_split]
      exact RetG_1 (.inl rfl) rfl (ResV.tmp rfl) GivesTo.g (⟨A105, c105, rfl, rfl⟩)
theorem short_big (L : List HP) (A : Option Addr) (k c : Nat) (h : 65536 < k) : Fn Try.prog 77 #[.slice A k c] L (fun v L' => v = .tuple #[.slice none 0 0, .int .i64 3] ∧ L' = L) := by
  refine Fn_enter Try.func77 rfl rfl rfl rfl ?_
  refine T_region ?_
  refine TL_y rfl rfl (Y_assign rfl) ?_
  refine TL_y rfl rfl (Y_assign rfl) ?_
  refine TL_nil ?_
  refine T_seq ?_
  refine T_region ?_
  refine TL_y rfl rfl (Y_move rfl) ?_
  refine TL_y rfl rfl (Y_len rfl) ?_
  refine TL_y rfl rfl (Y_gt rfl rfl) ?_
  refine TL_name 6 (v' := .bool true) rfl (congrArg Value.bool (decide_eq_true (by omega))) ?_
  refine TL_nil ?_
  refine T_cond_true rfl ?_
  refine T_region ?_
  refine TL_y rfl rfl (Y_assign rfl) ?_
  refine TL_y rfl rfl (Y_assign rfl) ?_
  refine TL_nil ?_
  refine T_ret ?_
  refine thenS_ret ?_
  exact RetG_2 (.inl rfl) rfl (ResV.tmp rfl) (ResV.tmp rfl) GivesTo.g (⟨rfl, rfl⟩)
theorem short_ok (L : List HP) (A : Option Addr) (k c : Nat) (h : ¬ 65536 < k) : Fn Try.prog 77 #[.slice A k c] L (fun v L' => v = .tuple #[.slice A k c, .int .i64 0] ∧ L' = L) := by
  refine Fn_enter Try.func77 rfl rfl rfl rfl ?_
  refine T_region ?_
  refine TL_y rfl rfl (Y_assign rfl) ?_
  refine TL_y rfl rfl (Y_assign rfl) ?_
  refine TL_nil ?_
  refine T_seq ?_
  refine T_region ?_
  refine TL_y rfl rfl (Y_move rfl) ?_
  refine TL_y rfl rfl (Y_len rfl) ?_
  refine TL_y rfl rfl (Y_gt rfl rfl) ?_
  refine TL_name 6 (v' := .bool false) rfl (congrArg Value.bool (decide_eq_false (by omega))) ?_
  refine TL_nil ?_
  refine T_cond_false rfl ?_
  refine T_skip ?_
  refine thenS_normal ?_
  refine T_region ?_
  refine TL_y rfl rfl (Y_move rfl) ?_
  refine TL_y rfl rfl (Y_assign rfl) ?_
  refine TL_y rfl rfl (Y_assign rfl) ?_
  refine TL_nil ?_
  refine T_ret ?_
  exact RetG_2 (.inl rfl) rfl (ResV.tmp rfl) (ResV.tmp rfl) GivesTo.g (⟨rfl, rfl⟩)
theorem refMsg_spec {L : List HP} (m : MsgD) (p : MsgP) (hx : MsgOk m) (hk : MsgK L m p) : Fn Try.prog 49 #[msgV m p] L (fun v L' => outW (wMsg m ([], false)) v L L') := by
  refine Fn_enter Try.func49 rfl rfl rfl rfl ?_
  refine T_gives (MsgK.lay hk) ?_
  refine T_region ?_
  refine TL_box rfl rfl rfl ?_
  intro b1
  refine TL_y rfl rfl (Y_assign rfl) ?_
  refine TL_y rfl rfl (Y_assign rfl) ?_
  refine TL_nil ?_
  refine T_seq ?_
  refine T_region ?_
  refine TL_y rfl rfl (Y_load_agg rfl rfl) ?_
  refine TL_call rfl rfl (rightMsg_spec m p hx ⟨slk, slk, slk, slk⟩) ?_
  rintro _ _ ⟨rfl, rfl⟩
  refine TL_y rfl rfl (Y_not_d rfl) ?_
  refine TL_nil ?_
  refine T_if rfl (fun h6 => ?_) (fun h6 => ?_)
  · have hb : (wMsg m ([], false)).2 = true := by cases e : (wMsg m ([], false)).2 with | true => rfl | false => exact absurd (wMsg_bad.1 e).2 h6
    refine T_region ?_
    refine TL_y rfl rfl (Y_assign rfl) ?_
    refine TL_y rfl rfl (Y_assign rfl) ?_
    refine TL_nil ?_
    refine T_ret ?_
    refine thenS_ret ?_
    have e1 : outB (wMsg m ([], false)) = [] := by simp [outB, hb]
    have e2 : outE (wMsg m ([], false)) = 1 := by simp [outE, hb]
    unfold outW
    rw [e1, e2]
    refine RetQ.gives (osl_nil (intR .u8) 5 none _) ?_
    exact RetG_2 (.inl rfl) rfl (ResV.tmp rfl) (ResV.tmp rfl) GivesTo.g (⟨none, 0, rfl, rfl⟩)
  · have hr : rMsg m := Classical.not_not.1 h6
    have hw := wMsg_ok (s := ([], false)) rfl hr
    rw [List.nil_append] at hw
    refine T_skip ?_
    refine thenS_normal ?_
    refine T_region ?_
    refine TL_y rfl rfl (Y_load_agg rfl rfl) ?_
    refine TL_call rfl rfl (refMsgW_spec m p hr ⟨slk, slk, slk, slk⟩) ?_
    rintro _ _ ⟨A8, c8, rfl, rfl⟩
    refine Classical.byCases (p := 65536 < (bMsg m).length) (fun hlen => TL_call rfl rfl (short_big _ _ _ _ hlen) ?_) (fun hlen => TL_call rfl rfl (short_ok _ _ _ _ hlen) ?_)
    · rintro _ _ ⟨rfl, rfl⟩
      refine TL_y rfl rfl (Y_extract rfl rfl) ?_
      refine TL_y rfl rfl (Y_extract rfl rfl) ?_
      refine TL_y rfl rfl (Y_assign rfl) ?_
      refine TL_y rfl rfl (Y_assign rfl) ?_
      refine TL_nil ?_
      refine T_ret ?_
      have e1 : outB (wMsg m ([], false)) = [] := by rw [hw]; simp [outB, hlen]
      have e2 : outE (wMsg m ([], false)) = 3 := by rw [hw]; simp [outE, hlen]
      unfold outW
      rw [e1, e2]
      refine RetQ.gives (osl_nil (intR .u8) 5 none _) ?_
      exact RetG_2 (.inl rfl) rfl (ResV.tmp rfl) (ResV.tmp rfl) GivesTo.g (⟨none, 0, rfl, rfl⟩)
    · rintro _ _ ⟨rfl, rfl⟩
      refine TL_y rfl rfl (Y_extract rfl rfl) ?_
      refine TL_y rfl rfl (Y_extract rfl rfl) ?_
      refine TL_y rfl rfl (Y_assign rfl) ?_
      refine TL_y rfl rfl (Y_assign rfl) ?_
      refine TL_nil ?_
      refine T_ret ?_
      have e1 : outB (wMsg m ([], false)) = bMsg m := by rw [hw, outB, if_neg (by simp; omega)]
      have e2 : outE (wMsg m ([], false)) = 0 := by rw [hw, outE, if_neg (by simp), if_neg hlen]
      unfold outW
      rw [e1, e2]
      exact RetG_2 (.inl rfl) rfl (ResV.tmp rfl) (ResV.tmp rfl) GivesTo.g (⟨A8, c8, rfl, rfl⟩)
theorem good_msg {m x : MsgD} {e : Int} (hr : rMsg m) (hl : (bMsg m).length ≤ 65536) (h : MsgRes (bMsg m) x e) : e = 0 ∧ x = m := by
  obtain ⟨y, s', h1, h2⟩ := h
  have g := h1.cmp m [] rfl hr (by simp [rs0])
  obtain ⟨_, a2, a3⟩ := h1.snd g
  obtain ⟨e1, e2⟩ := pf_msg m y [] s'.b hr a2 (by rw [List.append_nil]; exact a3)
  rcases h2 with ⟨k1, k2, _⟩ | ⟨_, k | k | k⟩
  · exact ⟨k1, by rw [k2, e1]⟩
  · rw [g] at k; cases k
  · exact absurd e2.symm k
  · omega
theorem behind_msg {m x : MsgD} {e : Int} (hr : rMsg m) (h : MsgRes (bMsg m ++ [0]) x e) : e = 10 := by
  obtain ⟨y, s', h1, ⟨_, _, k1, k2, _⟩ | ⟨k, _⟩⟩ := h
  · obtain ⟨_, a2, a3⟩ := h1.snd k1
    obtain ⟨_, e2⟩ := pf_msg m y [0] s'.b hr a2 a3
    rw [k2] at e2; cases e2
  · exact k
theorem codecMsgs_walk {L : List HP} (m : MsgD) (p : MsgP) (hx : MsgOk m) (hk : MsgK L m p) (hc : cMsg m ≤ 140737488355328) : Fn Try.prog 13 #[msgV m p] L (fun v L' => v = .bool true ∧ L' = L) := by
  refine Fn_enter Try.func13 rfl rfl rfl rfl ?_
  refine T_gives (MsgK.lay hk) ?_
  refine T_region ?_
  refine TL_box rfl rfl rfl ?_
  intro b1
  refine TL_y rfl rfl (Y_assign rfl) ?_
  refine TL_nil ?_
  refine T_region ?_
  refine TL_y rfl rfl (Y_load_agg rfl rfl) ?_
  refine TL_call rfl rfl (msg_spec m p hx ⟨slk, slk, slk, slk⟩ hc) ?_
  rintro _ _ ⟨A12, c12, rfl, rfl⟩
  refine TL_freeze_osl ?_
  refine TL_y rfl rfl (Y_move rfl) ?_
  refine TL_y rfl rfl (Y_extract rfl rfl) ?_
  refine TL_y rfl rfl (Y_extract rfl rfl) ?_
  refine TL_y rfl rfl (Y_assign rfl) ?_
  refine TL_y rfl rfl (Y_assign rfl) ?_
  refine TL_nil ?_
  refine T_region ?_
  refine TL_y rfl rfl (Y_load_agg rfl rfl) ?_
  refine TL_call rfl rfl (refMsg_spec m p hx ⟨slk, slk, slk, slk⟩) ?_
  rintro _ _ ⟨A17, c17, rfl, rfl⟩
  refine TL_freeze_osl ?_
  refine TL_y rfl rfl (Y_move rfl) ?_
  refine TL_y rfl rfl (Y_extract rfl rfl) ?_
  refine TL_y rfl rfl (Y_extract rfl rfl) ?_
  refine TL_y rfl rfl (Y_assign rfl) ?_
  refine TL_y rfl rfl (Y_assign rfl) ?_
  refine TL_nil ?_
  refine T_seq ?_
  refine T_region ?_
  refine TL_call rfl rfl (lives01_spec _) ?_
  rintro _ _ ⟨rfl, rfl⟩
  refine TL_name 20 (v' := .bool true) rfl (rfl) ?_
  refine TL_y rfl rfl (Y_not_t rfl) ?_
  refine TL_y rfl rfl (Y_move rfl) ?_
  refine TL_grun rfl rfl ?_
  refine TL_y rfl rfl (Y_move rfl) ?_
  refine TL_grun rfl rfl ?_
  refine TL_y rfl rfl (Y_bytes_str rfl slk) ?_
  refine TL_grun rfl rfl ?_
  refine TL_y rfl rfl (Y_move rfl) ?_
  refine TL_grun rfl rfl ?_
  refine TL_y rfl rfl (Y_bytes_str rfl slk) ?_
  refine TL_grun rfl rfl ?_
  refine TL_y rfl rfl (Y_str_ne rfl rfl) ?_
  refine TL_name 27 (v' := .bool false) rfl (congrArg Value.bool (decide_eq_false (by simp))) ?_
  refine TL_y rfl rfl (Y_pick_f rfl rfl) ?_
  refine TL_y rfl rfl (Y_move rfl) ?_
  refine TL_grun rfl rfl ?_
  refine TL_y rfl rfl (Y_move rfl) ?_
  refine TL_grun rfl rfl ?_
  refine TL_y rfl rfl (Y_move rfl) ?_
  refine TL_grun rfl rfl ?_
  refine TL_y rfl rfl (Y_ne rfl rfl) ?_
  refine TL_name 32 (v' := .bool false) rfl (congrArg Value.bool (decide_eq_false (by simp))) ?_
  refine TL_y rfl rfl (Y_pick_f rfl rfl) ?_
  refine TL_nil ?_
  refine T_cond_false rfl ?_
  refine T_skip ?_
  refine thenS_normal ?_
  refine T_seq ?_
  refine T_region ?_
  refine TL_y rfl rfl (Y_move rfl) ?_
  refine TL_y rfl rfl (Y_ne rfl rfl) ?_
  refine TL_nil ?_
  refine T_if rfl (fun h35 => ?_) (fun h35 => ?_)
  · refine T_region ?_
    refine TL_y rfl rfl (Y_assign rfl) ?_
    refine TL_nil ?_
    refine T_ret ?_
    refine thenS_ret ?_
    exact RetG_1 (.inl rfl) rfl (ResV.tmp rfl) GivesTo.g (⟨rfl, rfl⟩)
  · refine T_skip ?_
    refine thenS_normal ?_
    obtain ⟨rm, em⟩ := out_msg (Classical.not_not.1 h35)
    have lm := out_len (s := wMsg m ([], false))
    rw [em]
    rw [em] at lm
    refine T_region ?_
    refine TL_y rfl rfl (Y_move rfl) ?_
    refine TL_call rfl rfl (readMsg_spec (A := A12) (c := c12) (bs := bMsg m) slk (by omega)) ?_
    rintro _ _ ⟨x1, p1, e1, rfl, rfl, _, hr1⟩
    obtain ⟨rfl, rfl⟩ := good_msg rm lm hr1
    refine TL_y rfl rfl (Y_move rfl) ?_
    refine TL_y rfl rfl (Y_extract rfl rfl) ?_
    refine TL_y rfl rfl (Y_extract rfl rfl) ?_
    refine TL_alloc rfl rfl ?_
    intro b7
    refine TL_store rfl rfl rfl rfl rfl rfl ?_
    refine TL_y rfl rfl (Y_assign rfl) ?_
    refine TL_nil ?_
    refine T_region ?_
    refine TL_build_slice rfl rfl rfl rfl rfl rfl ?_
    intro b42
    refine TL_osl (k := 0) (intR .u8) [] (Knows.const fun M => rfl) rfl (by simp) ?_
    refine TL_name 42 (v' := .slice (some ⟨b42, 0, none⟩) ([] : List Int).length 0) rfl rfl ?_
    refine TL_y rfl rfl (Y_move rfl) ?_
    refine TL_append rfl rfl rfl rfl rfl (slk (A := A12) (c := c12)) (by simp only [List.length_nil]; omega) ?_
    intro A44 c44
    rw [List.nil_append]
    refine TL_build_slice rfl rfl rfl rfl rfl rfl ?_
    intro b45
    refine TL_osl (k := 1) (intR .u8) [0] (one_u8 (by decide)) rfl (by decide) ?_
    refine TL_freeze_osl ?_
    refine TL_name 45 (v' := .slice (some ⟨b45, 0, none⟩) ([0] : List Int).length 1) rfl rfl ?_
    refine TL_append rfl rfl rfl rfl rfl slk (by simp only [List.length_cons, List.length_nil]; omega) ?_
    intro A46 c46
    refine TL_freeze_osl ?_
    refine TL_call rfl rfl (readMsg_spec (A := A46) (c := c46) (bs := bMsg x1 ++ [0]) slk (by simp only [List.length_append, List.length_cons, List.length_nil]; omega)) ?_
    rintro _ _ ⟨x2, p2, e2, rfl, rfl, _, hr2⟩
    obtain rfl := behind_msg rm hr2
    refine TL_y rfl rfl (Y_move rfl) ?_
    refine TL_y rfl rfl (Y_extract rfl rfl) ?_
    refine TL_y rfl rfl (Y_extract rfl rfl) ?_
    refine TL_alloc rfl rfl ?_
    intro b8
    refine TL_store rfl rfl rfl rfl rfl rfl ?_
    refine TL_y rfl rfl (Y_assign rfl) ?_
    refine TL_nil ?_
    refine T_region ?_
    refine TL_y rfl rfl (Y_move rfl) ?_
    refine TL_y rfl rfl (Y_eq rfl rfl) ?_
    refine TL_name 51 (v' := .bool true) rfl (by simp) ?_
    refine TL_y rfl rfl (Y_move rfl) ?_
    refine TL_grun rfl rfl ?_
    refine TL_y rfl rfl (Y_load_agg rfl rfl) ?_
    refine TL_grun rfl rfl ?_
    refine TL_y rfl rfl (Y_load_agg rfl rfl) ?_
    refine TL_grun rfl rfl ?_
    refine TL_call rfl rfl (sameMsg_spec x1 x1 p1 p ⟨slk, slk, slk, slk⟩ ⟨slk, slk, slk, slk⟩) ?_
    rintro _ _ ⟨rfl, rfl⟩
    refine TL_name 55 (v' := .bool true) rfl (by simp) ?_
    refine TL_y rfl rfl (Y_pick_t rfl rfl) ?_
    refine TL_y rfl rfl (Y_move rfl) ?_
    refine TL_grun rfl rfl ?_
    refine TL_y rfl rfl (Y_move rfl) ?_
    refine TL_grun rfl rfl ?_
    refine TL_y rfl rfl (Y_eq rfl rfl) ?_
    refine TL_name 59 (v' := .bool true) rfl (by simp) ?_
    refine TL_y rfl rfl (Y_pick_t rfl rfl) ?_
    refine TL_y rfl rfl (Y_assign rfl) ?_
    refine TL_nil ?_
    refine T_ret ?_
    exact RetG_1 (.inl rfl) rfl (ResV.tmp rfl) GivesTo.g (⟨rfl, rfl⟩)
end Go.SL
