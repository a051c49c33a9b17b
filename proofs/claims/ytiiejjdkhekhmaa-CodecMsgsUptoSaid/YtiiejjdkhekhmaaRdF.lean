/- Codec: messages are read; what is read of bytes that were written. -/
import Derived.Test.YtiiejjdkhekhmaaRdE
set_option linter.unusedVariables false
set_option linter.unusedSimpArgs false
namespace Go.SL
open Go Go.Proofs
theorem msgRd {s s0 s1 s2 s3 s4 s5 s6 s7 s8 s9 : RS} {x0 x1 x2 x4 x9 : Int} {x3 : Int × Int} {x5 : EntryD} {x6 : List VotedD} {x7 : List Int} {x8 : List EventD} (h0 : RdR (rNum 255) (rNum 255) bNum s x0 s0) (h1 : RdR (rNum 6) (rNum 6) bNum s0 x1 s1) (h2 : RdR (rNum 6) (rNum 6) bNum s1 x2 s2) (h3 : RdR rBal rBal bBal s2 x3 s3) (h4 : RdR (rNum 2147483647) (rNum 2147483647) bNum s3 x4 s4) (h5 : RdR rEntry entryIv bEntry s4 x5 s5) (h6 : RdR (okL rVoted 4096) (okL votedOk 4096) (bList bVoted) s5 x6 s6) (h7 : RdR rVec (okL (rNum 2147483647) 7) bVec s6 x7 s7) (h8 : RdR (okL rEvent 4096) (okL eventOk 4096) (bList bEvent) s7 x8 s8) (h9 : RdR (rNum 4611686018427387904) (rNum 4611686018427387904) bNum s8 x9 s9) : RdR rMsg MsgOk bMsg s ⟨x0, x1, x2, x3, x4, x5, x6, x7, x8, x9⟩ s9 :=
  have pv : PF (okL rVoted 4096) (bList bVoted) := fun v w r r' hv hw e => pf_list pf_voted hv.1 hw.1 hv.2 hw.2 (by unfold bList at e; rwa [List.append_assoc, List.append_assoc] at e)
  have pe : PF (okL rEvent 4096) (bList bEvent) := fun v w r r' hv hw e => pf_list pf_event hv.1 hw.1 hv.2 hw.2 (by unfold bList at e; rwa [List.append_assoc, List.append_assoc] at e)
  (h0.seq (pf_num (by decide)) (h1.seq (pf_num (by decide)) (h2.seq (pf_num (by decide)) (h3.seq pf_bal (h4.seq (pf_num (by decide)) (h5.seq pf_entry (h6.seq pv (h7.seq pf_vec (h8.seq pe h9))))))))).map (ok2 := rMsg) (iv2 := MsgOk) (b2 := bMsg)
    (fun p => (⟨p.1, p.2.1, p.2.2.1, p.2.2.2.1, p.2.2.2.2.1, p.2.2.2.2.2.1, p.2.2.2.2.2.2.1, p.2.2.2.2.2.2.2.1, p.2.2.2.2.2.2.2.2.1, p.2.2.2.2.2.2.2.2.2⟩ : MsgD)) (fun x => (x.kind, (x.frm, (x.to_, (x.bal, (x.slot, (x.en, (x.voted, (x.seen, (x.events, x.time)))))))))) rfl (fun y => Iff.rfl) (fun y => by simp [bMsg, bList])
    (fun ⟨a, b, c, d, e, f, g, h, i, j⟩ => by
      obtain ⟨d1, d2⟩ := d
      unfold rNum at a b c d1 d2 e j
      dsimp only at a b c d1 d2 e f j
      exact ⟨i64In_mk (by show -9223372036854775808 ≤ x0 ∧ x0 ≤ 9223372036854775807; omega), i64In_mk (by show -9223372036854775808 ≤ x1 ∧ x1 ≤ 9223372036854775807; omega), i64In_mk (by show -9223372036854775808 ≤ x2 ∧ x2 ≤ 9223372036854775807; omega), i64In_mk (by show -9223372036854775808 ≤ x3.1 ∧ x3.1 ≤ 9223372036854775807; omega), i64In_mk (by show -9223372036854775808 ≤ x3.2 ∧ x3.2 ≤ 9223372036854775807; omega), i64In_mk (by show -9223372036854775808 ≤ x4 ∧ x4 ≤ 9223372036854775807; omega), f, i64In_mk (by show -9223372036854775808 ≤ x9 ∧ x9 ≤ 9223372036854775807; omega)⟩)
abbrev mL (m : MsgD) (p : MsgP) (L : List HP) : List HP := sl (intR .i64) p.cut.1 p.cut.2 m.en.order.cut :: sl votedR p.voted.1 p.voted.2 m.voted :: sl (intR .i64) p.seen.1 p.seen.2 m.seen :: sl eventR p.events.1 p.events.2 m.events :: L
theorem rmsg_spec {L : List HP} {b : Nat} {s : RS} (hn : s.n + s.b.length ≤ 140737488355328) : Fn Try.prog 79 #[.pointer (some ⟨b, 0, none⟩)] (rdr b s :: L) (fun v L' => ∃ x p s', v = msgV x p ∧ L' = mL x p (rdr b s' :: L) ∧ RdR rMsg MsgOk bMsg s x s') := by
  refine Fn_enter Try.func79 rfl rfl rfl rfl ?_
  refine T_region ?_
  refine TL_alloc rfl rfl ?_
  intro b2
  refine TL_nil ?_
  refine T_region ?_
  refine TL_y rfl rfl (Y_move rfl) ?_
  refine TL_pullk b ?_
  refine TL_call rfl rfl (number_spec 255 (by decide) hn) ?_
  rintro _ _ ⟨x0, s0, rfl, rfl, h0⟩
  have ht0 := h0.tot
  refine TL_y rfl rfl (Y_build rfl rfl) ?_
  refine TL_alloc rfl rfl ?_
  intro b3
  refine TL_store rfl rfl rfl rfl rfl rfl ?_
  refine TL_nil ?_
  refine T_region ?_
  refine TL_y rfl rfl (Y_move rfl) ?_
  refine TL_pullk b ?_
  refine TL_call rfl rfl (number_spec 6 (by decide) (by omega)) ?_
  rintro _ _ ⟨x1, s1, rfl, rfl, h1⟩
  have ht1 := h1.tot
  refine TL_y rfl rfl (Y_field_addr rfl) ?_
  refine TL_store rfl rfl rfl rfl rfl rfl ?_
  refine TL_nil ?_
  refine T_region ?_
  refine TL_y rfl rfl (Y_move rfl) ?_
  refine TL_pullk b ?_
  refine TL_call rfl rfl (number_spec 6 (by decide) (by omega)) ?_
  rintro _ _ ⟨x2, s2, rfl, rfl, h2⟩
  have ht2 := h2.tot
  refine TL_y rfl rfl (Y_field_addr rfl) ?_
  refine TL_store rfl rfl rfl rfl rfl rfl ?_
  refine TL_nil ?_
  refine T_region ?_
  refine TL_y rfl rfl (Y_move rfl) ?_
  refine TL_pullk b ?_
  refine TL_call rfl rfl (rballot_spec (by omega)) ?_
  rintro _ _ ⟨x3, s3, rfl, rfl, h3⟩
  have ht3 := h3.tot
  refine TL_y rfl rfl (Y_field_addr rfl) ?_
  refine TL_store rfl rfl rfl rfl rfl rfl ?_
  refine TL_nil ?_
  refine T_region ?_
  refine TL_y rfl rfl (Y_move rfl) ?_
  refine TL_pullk b ?_
  refine TL_call rfl rfl (number_spec 2147483647 (by decide) (by omega)) ?_
  rintro _ _ ⟨x4, s4, rfl, rfl, h4⟩
  have ht4 := h4.tot
  refine TL_y rfl rfl (Y_field_addr rfl) ?_
  refine TL_store rfl rfl rfl rfl rfl rfl ?_
  refine TL_nil ?_
  refine T_region ?_
  refine TL_y rfl rfl (Y_move rfl) ?_
  refine TL_pullk b ?_
  refine TL_call rfl rfl (rentry_spec (by omega)) ?_
  rintro _ _ ⟨x5, A5, c5, s5, rfl, rfl, h5⟩
  have ht5 := h5.tot
  refine TL_y rfl rfl (Y_field_addr rfl) ?_
  refine TL_store rfl rfl rfl rfl rfl rfl ?_
  refine TL_nil ?_
  refine T_region ?_
  refine TL_y rfl rfl (Y_move rfl) ?_
  refine TL_y rfl rfl (Y_move rfl) ?_
  refine TL_y rfl rfl (Y_make_func rfl rfl) ?_
  refine TL_pullk b ?_
  refine TL_call rfl rfl (list_voted_spec 4096 (by decide) (by omega)) ?_
  rintro _ _ ⟨x6, A6, c6, s6, rfl, rfl, h6⟩
  have ht6 := h6.tot
  refine TL_y rfl rfl (Y_field_addr rfl) ?_
  refine TL_store rfl rfl rfl rfl rfl rfl ?_
  refine TL_nil ?_
  refine T_region ?_
  refine TL_y rfl rfl (Y_move rfl) ?_
  refine TL_pullk b ?_
  refine TL_call rfl rfl (rvector_spec (by omega)) ?_
  rintro _ _ ⟨x7, A7, c7, s7, rfl, rfl, h7⟩
  have ht7 := h7.tot
  refine TL_y rfl rfl (Y_field_addr rfl) ?_
  refine TL_store rfl rfl rfl rfl rfl rfl ?_
  refine TL_nil ?_
  refine T_region ?_
  refine TL_y rfl rfl (Y_move rfl) ?_
  refine TL_y rfl rfl (Y_move rfl) ?_
  refine TL_y rfl rfl (Y_make_func rfl rfl) ?_
  refine TL_pullk b ?_
  refine TL_call rfl rfl (list_event_spec 4096 (by decide) (by omega)) ?_
  rintro _ _ ⟨x8, A8, c8, s8, rfl, rfl, h8⟩
  have ht8 := h8.tot
  refine TL_y rfl rfl (Y_field_addr rfl) ?_
  refine TL_store rfl rfl rfl rfl rfl rfl ?_
  refine TL_nil ?_
  refine T_region ?_
  refine TL_y rfl rfl (Y_move rfl) ?_
  refine TL_pullk b ?_
  refine TL_call rfl rfl (number_spec 4611686018427387904 (by decide) (by omega)) ?_
  rintro _ _ ⟨x9, s9, rfl, rfl, h9⟩
  refine TL_y rfl rfl (Y_field_addr rfl) ?_
  refine TL_store rfl rfl rfl rfl rfl rfl ?_
  refine TL_nil ?_
  refine T_region ?_
  refine TL_y rfl rfl (Y_load_agg rfl rfl) ?_
  refine TL_store rfl rfl rfl rfl rfl rfl ?_
  refine TL_nil ?_
  refine T_ret ?_
  exact RetG_1 (.inl rfl) rfl (ResV.agg rfl rfl) GivesTo.g (⟨⟨x0, x1, x2, x3, x4, x5, x6, x7, x8, x9⟩, ⟨(A5, c5), (A6, c6), (A7, c7), (A8, c8)⟩, s9, rfl, rfl, msgRd h0 h1 h2 h3 h4 h5 h6 h7 h8 h9⟩)
abbrev msg0 : MsgD := ⟨0, 0, 0, (0, 0), 0, ⟨false, ⟨⟨#[]⟩, ⟨#[]⟩, 0, []⟩⟩, [], [], [], 0⟩
theorem msg0_ok : MsgOk msg0 := ⟨by decide, by decide, by decide, by decide, by decide, by decide, by unfold orderOk'; decide, by decide⟩
def rs0 (bs : List Int) : RS := ⟨bs, 0, false⟩
/-- What reading a whole message comes to. -/
def MsgRes (bs : List Int) (m : MsgD) (e : Int) : Prop := ∃ x s', RdR rMsg MsgOk bMsg (rs0 bs) x s' ∧ ((e = 0 ∧ m = x ∧ s'.bad = false ∧ s'.b = [] ∧ bs.length ≤ 65536) ∨ (e = 10 ∧ (s'.bad = true ∨ s'.b ≠ [] ∨ 65536 < bs.length)))
theorem readMsg_spec {L : List HP} {A : Option Addr} {c : Nat} {bs : List Int} (hk : SlK L (intR .u8) A c bs) (hb : bs.length ≤ 140737488355328) : Fn Try.prog 50 #[.slice A bs.length c] L (fun v L' => ∃ m p e, v = .tuple #[msgV m p, .int .i64 e] ∧ L' = mL m p L ∧ MsgOk m ∧ MsgRes bs m e) := by
  refine Fn_enter Try.func50 rfl rfl rfl rfl ?_
  refine T_gives hk.lay ?_
  refine T_region ?_
  refine TL_alloc rfl rfl ?_
  intro b2
  refine TL_y rfl rfl (Y_assign rfl) ?_
  refine TL_nil ?_
  refine T_region ?_
  refine TL_y rfl rfl (Y_move rfl) ?_
  refine TL_y rfl rfl (Y_build rfl rfl) ?_
  refine TL_box rfl rfl rfl ?_
  intro b8
  refine TL_y rfl rfl (Y_assign rfl) ?_
  refine TL_nil ?_
  refine T_region ?_
  refine TL_y rfl rfl (Y_move rfl) ?_
  refine TL_gives (rdr_close b8 (rs0 bs) (SlK.tail slk)) ?_
  refine TL_call rfl rfl (rmsg_spec (by show 0 + bs.length ≤ _; omega)) ?_
  rintro _ _ ⟨x, p, s1, rfl, rfl, h⟩
  refine TL_alloc rfl rfl ?_
  intro b5
  refine TL_store rfl rfl rfl rfl rfl rfl ?_
  refine TL_nil ?_
  refine T_seq ?_
  refine T_pullk b8 ?_
  refine T_rdr fun Ar cr => ?_
  refine T_region ?_
  refine TL_y rfl rfl (Y_move rfl) ?_
  refine TL_y rfl rfl (Y_nil_check rfl) ?_
  refine TL_y rfl rfl (Y_field_addr rfl) ?_
  refine TL_y rfl rfl (Y_load rfl rfl) ?_
  refine TL_y rfl rfl (Y_move rfl) ?_
  refine TL_split 15 rfl (fun h15 => ?_) (fun h15 => ?_)
  · refine TL_gskip rfl rfl rfl rfl ?_
    refine TL_gskip rfl rfl rfl rfl ?_
    refine TL_gskip rfl rfl rfl rfl ?_
    refine TL_gskip rfl rfl rfl rfl ?_
    refine TL_gskip rfl rfl rfl rfl ?_
    refine TL_gskip rfl rfl rfl rfl ?_
    refine TL_y rfl rfl (Y_pick_t rfl rfl) ?_
    refine TL_y rfl rfl (Y_move rfl) ?_
    refine TL_gskip rfl rfl rfl rfl ?_
    refine TL_gskip rfl rfl rfl rfl ?_
    refine TL_gskip rfl rfl rfl rfl ?_
    refine TL_y rfl rfl (Y_pick_t rfl rfl) ?_
    refine TL_nil ?_
    refine T_cond_true rfl ?_
    refine T_region ?_
    refine TL_y rfl rfl (Y_build rfl rfl) ?_
    refine TL_store rfl rfl rfl rfl rfl rfl ?_
    refine TL_y rfl rfl (Y_assign rfl) ?_
    refine TL_nil ?_
    refine T_ret ?_
    refine thenS_ret ?_
    have hres : MsgRes bs msg0 10 := ⟨x, s1, h, .inr ⟨rfl, .inl h15⟩⟩
    refine RetQ.gives (slnil (A := none) (c := 0) (R := intR .i64)).lay ?_
    refine RetQ.gives (slnil (A := none) (c := 0) (R := intR .i64)).lay ?_
    refine RetQ.gives (slnil (A := none) (c := 0) (R := votedR)).lay ?_
    refine RetQ.gives (slnil (A := none) (c := 0) (R := eventR)).lay ?_
    exact RetG_2 (.inl rfl) rfl (ResV.agg rfl rfl) (ResV.tmp rfl) GivesTo.g (⟨msg0, ⟨(none, 0), (none, 0), (none, 0), (none, 0)⟩, 10, rfl, rfl, msg0_ok, hres⟩)
  · refine TL_grun rfl rfl ?_
    refine TL_y rfl rfl (Y_move rfl) ?_
    refine TL_grun rfl rfl ?_
    refine TL_y rfl rfl (Y_nil_check rfl) ?_
    refine TL_grun rfl rfl ?_
    refine TL_y rfl rfl (Y_field_addr rfl) ?_
    refine TL_grun rfl rfl ?_
    refine TL_y rfl rfl (Y_load rfl rfl) ?_
    refine TL_grun rfl rfl ?_
    refine TL_y rfl rfl (Y_len rfl) ?_
    refine TL_grun rfl rfl ?_
    refine TL_y rfl rfl (Y_gt rfl rfl) ?_
    refine TL_y rfl rfl (Y_pick_f rfl rfl) ?_
    refine TL_y rfl rfl (Y_move rfl) ?_
    refine TL_splitd 23 rfl (fun h23 => ?_) (fun h23 => ?_)
    · refine TL_gskip rfl rfl rfl rfl ?_
      refine TL_gskip rfl rfl rfl rfl ?_
      refine TL_gskip rfl rfl rfl rfl ?_
      refine TL_y rfl rfl (Y_pick_t rfl rfl) ?_
      refine TL_nil ?_
      refine T_cond_true rfl ?_
      refine T_region ?_
      refine TL_y rfl rfl (Y_build rfl rfl) ?_
      refine TL_store rfl rfl rfl rfl rfl rfl ?_
      refine TL_y rfl rfl (Y_assign rfl) ?_
      refine TL_nil ?_
      refine T_ret ?_
      refine thenS_ret ?_
      have hres : MsgRes bs msg0 10 := ⟨x, s1, h, .inr ⟨rfl, .inr (.inl (by intro e; rw [e] at h23; simp at h23))⟩⟩
      refine RetQ.gives (slnil (A := none) (c := 0) (R := intR .i64)).lay ?_
      refine RetQ.gives (slnil (A := none) (c := 0) (R := intR .i64)).lay ?_
      refine RetQ.gives (slnil (A := none) (c := 0) (R := votedR)).lay ?_
      refine RetQ.gives (slnil (A := none) (c := 0) (R := eventR)).lay ?_
      exact RetG_2 (.inl rfl) rfl (ResV.agg rfl rfl) (ResV.tmp rfl) GivesTo.g (⟨msg0, ⟨(none, 0), (none, 0), (none, 0), (none, 0)⟩, 10, rfl, rfl, msg0_ok, hres⟩)
    · refine TL_grun rfl rfl ?_
      refine TL_y rfl rfl (Y_move rfl) ?_
      refine TL_grun rfl rfl ?_
      refine TL_y rfl rfl (Y_len rfl) ?_
      refine TL_grun rfl rfl ?_
      refine TL_y rfl rfl (Y_gt rfl rfl) ?_
      refine TL_y rfl rfl (Y_pick_f rfl rfl) ?_
      refine TL_nil ?_
      refine T_if rfl (fun h27 => ?_) (fun h27 => ?_)
      · refine T_region ?_
        refine TL_y rfl rfl (Y_build rfl rfl) ?_
        refine TL_store rfl rfl rfl rfl rfl rfl ?_
        refine TL_y rfl rfl (Y_assign rfl) ?_
        refine TL_nil ?_
        refine T_ret ?_
        refine thenS_ret ?_
        have hres : MsgRes bs msg0 10 := ⟨x, s1, h, .inr ⟨rfl, .inr (.inr (by omega))⟩⟩
        refine RetQ.gives (slnil (A := none) (c := 0) (R := intR .i64)).lay ?_
        refine RetQ.gives (slnil (A := none) (c := 0) (R := intR .i64)).lay ?_
        refine RetQ.gives (slnil (A := none) (c := 0) (R := votedR)).lay ?_
        refine RetQ.gives (slnil (A := none) (c := 0) (R := eventR)).lay ?_
        exact RetG_2 (.inl rfl) rfl (ResV.agg rfl rfl) (ResV.tmp rfl) GivesTo.g (⟨msg0, ⟨(none, 0), (none, 0), (none, 0), (none, 0)⟩, 10, rfl, rfl, msg0_ok, hres⟩)
      · refine T_skip ?_
        refine thenS_normal ?_
        refine T_region ?_
        refine TL_y rfl rfl (Y_load_agg rfl rfl) ?_
        refine TL_store rfl rfl rfl rfl rfl rfl ?_
        refine TL_y rfl rfl (Y_assign rfl) ?_
        refine TL_nil ?_
        refine T_ret ?_
        exact RetG_2 (.inl rfl) rfl (ResV.agg rfl rfl) (ResV.tmp rfl) GivesTo.g (⟨x, p, 0, rfl, rfl, h.iv, x, s1, h, .inl ⟨rfl, rfl, h15, List.eq_nil_of_length_eq_zero (by omega), by omega⟩⟩)
end Go.SL
