/- Codec: the walks of the reader's records. -/
import Derived.Test.YtiiejjdkhekhmaaRdD
set_option linter.unusedVariables false
set_option linter.unusedSimpArgs false
namespace Go.SL
open Go Go.Proofs
theorem rballot_spec {L : List HP} {b : Nat} {s : RS} (hn : s.n + s.b.length ≤ 140737488355328) : Fn Try.prog 107 #[.pointer (some ⟨b, 0, none⟩)] (rdr b s :: L) (fun v L' => ∃ x s', v = pairV x ∧ L' = rdr b s' :: L ∧ RdR rBal rBal bBal s x s') := by
  refine Fn_enter Try.func107 rfl rfl rfl rfl ?_
  refine T_region ?_
  refine TL_alloc rfl rfl ?_
  intro b2
  refine TL_nil ?_
  refine T_region ?_
  refine TL_y rfl rfl (Y_move rfl) ?_
  refine TL_pullk b ?_
  refine TL_call rfl rfl (number_spec 2147483647 (by decide) hn) ?_
  rintro _ _ ⟨x0, s0, rfl, rfl, h0⟩
  have ht0 := h0.tot
  refine TL_y rfl rfl (Y_assign rfl) ?_
  refine TL_nil ?_
  refine T_region ?_
  refine TL_y rfl rfl (Y_move rfl) ?_
  refine TL_y rfl rfl (Y_move rfl) ?_
  refine TL_pullk b ?_
  refine TL_call rfl rfl (number_spec 6 (by decide) (by omega)) ?_
  rintro _ _ ⟨x1, s1, rfl, rfl, h1⟩
  refine TL_y rfl rfl (Y_build rfl rfl) ?_
  refine TL_store rfl rfl rfl rfl rfl rfl ?_
  refine TL_nil ?_
  refine T_ret ?_
  exact RetG_1 (.inl rfl) rfl (ResV.agg rfl rfl) GivesTo.g (⟨(x0, x1), s1, rfl, rfl, h0.seq (pf_num (by decide)) h1⟩)
theorem sealR {s s0 s1 s2 s3 : RS} {x0 x1 : ByteArray} {x2 : Int} {x3 : List Int} (h0 : RdR isName (fun x => x.size ≤ 32) txt s x0 s0) (h1 : RdR isName (fun x => x.size ≤ 32) txt s0 x1 s1) (h2 : RdR (rNum 2147483647) (rNum 2147483647) bNum s1 x2 s2) (h3 : RdR rVec (okL (rNum 2147483647) 7) bVec s2 x3 s3) : RdR rSeal orderOk' bSeal s ⟨x0, x1, x2, x3⟩ s3 :=
  (h0.seq pf_name (h1.seq pf_name (h2.seq (pf_num (by decide)) h3))).map (ok2 := rSeal) (iv2 := orderOk') (b2 := bSeal) (fun p => (⟨p.1, p.2.1, p.2.2.1, p.2.2.2⟩ : OrderD)) (fun x => (x.token, (x.cart, (x.epoch, x.cut)))) rfl (fun y => Iff.rfl) (fun y => rfl) (fun ⟨a, b, c, d⟩ => by
    have h := d.1
    unfold rNum at c
    dsimp only at a b c h
    exact ⟨by simp only [maxEl]; omega, by simp only [maxEl]; omega, i64In_mk (by show -9223372036854775808 ≤ x2 ∧ x2 ≤ 9223372036854775807; omega), by show x3.length ≤ _; omega⟩)
theorem rseal_spec {L : List HP} {b : Nat} {s : RS} (hn : s.n + s.b.length ≤ 140737488355328) : Fn Try.prog 87 #[.pointer (some ⟨b, 0, none⟩)] (rdr b s :: L) (fun v L' => ∃ x A c s', v = .agg (List.toArray (orderC x (A, c))) ∧ L' = sl (intR .i64) A c x.cut :: rdr b s' :: L ∧ RdR rSeal orderOk' bSeal s x s') := by
  refine Fn_enter Try.func87 rfl rfl rfl rfl ?_
  refine T_region ?_
  refine TL_alloc rfl rfl ?_
  intro b2
  refine TL_nil ?_
  refine T_region ?_
  refine TL_y rfl rfl (Y_move rfl) ?_
  refine TL_pullk b ?_
  refine TL_call rfl rfl (rname_spec hn) ?_
  rintro _ _ ⟨x0, s0, rfl, rfl, h0⟩
  have ht0 := h0.tot
  refine TL_y rfl rfl (Y_build rfl rfl) ?_
  refine TL_alloc rfl rfl ?_
  intro b3
  refine TL_store rfl rfl rfl rfl rfl rfl ?_
  refine TL_nil ?_
  refine T_region ?_
  refine TL_y rfl rfl (Y_move rfl) ?_
  refine TL_pullk b ?_
  refine TL_call rfl rfl (rname_spec (by omega)) ?_
  rintro _ _ ⟨x1, s1, rfl, rfl, h1⟩
  have ht1 := h1.tot
  refine TL_y rfl rfl (Y_field_addr rfl) ?_
  refine TL_store rfl rfl rfl rfl rfl rfl ?_
  refine TL_nil ?_
  refine T_region ?_
  refine TL_y rfl rfl (Y_move rfl) ?_
  refine TL_pullk b ?_
  refine TL_call rfl rfl (number_spec 2147483647 (by decide) (by omega)) ?_
  rintro _ _ ⟨x2, s2, rfl, rfl, h2⟩
  have ht2 := h2.tot
  refine TL_y rfl rfl (Y_field_addr rfl) ?_
  refine TL_store rfl rfl rfl rfl rfl rfl ?_
  refine TL_nil ?_
  refine T_region ?_
  refine TL_y rfl rfl (Y_move rfl) ?_
  refine TL_pullk b ?_
  refine TL_call rfl rfl (rvector_spec (by omega)) ?_
  rintro _ _ ⟨x3, A3, c3, s3, rfl, rfl, h3⟩
  refine TL_y rfl rfl (Y_field_addr rfl) ?_
  refine TL_store rfl rfl rfl rfl rfl rfl ?_
  refine TL_nil ?_
  refine T_region ?_
  refine TL_y rfl rfl (Y_load_agg rfl rfl) ?_
  refine TL_store rfl rfl rfl rfl rfl rfl ?_
  refine TL_nil ?_
  refine T_ret ?_
  exact RetG_1 (.inl rfl) rfl (ResV.agg rfl rfl) GivesTo.g (⟨⟨x0, x1, x2, x3⟩, A3, c3, s3, rfl, rfl, sealR h0 h1 h2 h3⟩)
def entryIv (e : EntryD) : Prop := orderOk' e.order
theorem entryR_t {s s0 : RS} (h0 : RdR (fun _ : Bool => True) (fun _ => True) bTruth s true s0) : RdR rEntry entryIv bEntry s ⟨true, ⟨⟨#[]⟩, ⟨#[]⟩, 0, []⟩⟩ s0 := by
  refine ⟨fun k => ?_, fun y r hs hy he => ?_, h0.tot, ?_⟩
  · obtain ⟨a1, _, a3⟩ := h0.snd k
    exact ⟨a1, by decide, by simpa [bEntry] using a3⟩
  · unfold bEntry at he
    rw [List.append_assoc] at he
    exact h0.cmp _ _ hs trivial he
  · unfold entryIv orderOk'; decide
theorem entryR_f {s s0 s1 : RS} {o : OrderD} (h0 : RdR (fun _ : Bool => True) (fun _ => True) bTruth s false s0) (h1 : RdR rSeal orderOk' bSeal s0 o s1) : RdR rEntry entryIv bEntry s ⟨false, o⟩ s1 := by
  refine ⟨fun k => ?_, fun y r hs hy he => ?_, by rw [h1.tot, h0.tot], h1.iv⟩
  · obtain ⟨c1, c2, c3⟩ := h1.snd k
    obtain ⟨a1, _, a3⟩ := h0.snd c1
    exact ⟨a1, by unfold rEntry; simpa using c2, by rw [a3, c3]; simp [bEntry]⟩
  · unfold bEntry at he
    rw [List.append_assoc] at he
    have g := h0.cmp _ _ hs trivial he
    obtain ⟨a1, _, a3⟩ := h0.snd g
    obtain ⟨e1, e2⟩ := pf_truth (a3.symm.trans he)
    unfold rEntry at hy
    rw [← e1] at hy e2
    exact h1.cmp y.order r g (by simpa using hy) (by simpa using e2)
theorem rentry_spec {L : List HP} {b : Nat} {s : RS} (hn : s.n + s.b.length ≤ 140737488355328) : Fn Try.prog 108 #[.pointer (some ⟨b, 0, none⟩)] (rdr b s :: L) (fun v L' => ∃ x A c s', v = .agg (List.toArray (entryC x (A, c))) ∧ L' = sl (intR .i64) A c x.order.cut :: rdr b s' :: L ∧ RdR rEntry entryIv bEntry s x s') := by
  refine Fn_enter Try.func108 rfl rfl rfl rfl ?_
  refine T_region ?_
  refine TL_alloc rfl rfl ?_
  intro b2
  refine TL_nil ?_
  refine T_seq ?_
  refine T_region ?_
  refine TL_y rfl rfl (Y_move rfl) ?_
  refine TL_pullk b ?_
  refine TL_call rfl rfl (rtruth_spec hn) ?_
  rintro _ _ ⟨x0, s0, rfl, rfl, h0⟩
  have ht0 := h0.tot
  refine TL_nil ?_
  refine T_cond rfl (fun h4 => ?_) (fun h4 => ?_)
  · refine T_region ?_
    refine TL_y rfl rfl (Y_build rfl rfl) ?_
    refine TL_store rfl rfl rfl rfl rfl rfl ?_
    refine TL_nil ?_
    refine T_ret ?_
    refine thenS_ret ?_
    rw [h4] at h0
    refine RetQ.gives (slnil (A := none) (c := 0) (R := intR .i64)).lay ?_
    exact RetG_1 (.inl rfl) rfl (ResV.agg rfl rfl) GivesTo.g (⟨_, none, 0, s0, rfl, rfl, entryR_t h0⟩)
  · refine T_skip ?_
    refine thenS_normal ?_
    refine T_region ?_
    refine TL_y rfl rfl (Y_move rfl) ?_
    refine TL_pullk b ?_
    refine TL_call rfl rfl (rseal_spec (by omega)) ?_
    rintro _ _ ⟨x1, A1, c1, s1, rfl, rfl, h1⟩
    refine TL_y rfl rfl (Y_build rfl rfl) ?_
    refine TL_store rfl rfl rfl rfl rfl rfl ?_
    refine TL_nil ?_
    refine T_ret ?_
    rw [h4] at h0
    exact RetG_1 (.inl rfl) rfl (ResV.agg rfl rfl) GivesTo.g (⟨⟨false, x1⟩, A1, c1, s1, rfl, rfl, entryR_f h0 h1⟩)
theorem eventRd {s s0 s1 s2 s3 s4 s5 s6 s7 : RS} {x0 x1 x4 x6 : Int} {x2 : List Int} {x3 x5 : ByteArray} {x7 : Bool} (h0 : RdR (rNum 6) (rNum 6) bNum s x0 s0) (h1 : RdR (rNum 2147483647) (rNum 2147483647) bNum s0 x1 s1) (h2 : RdR rVec (okL (rNum 2147483647) 7) bVec s1 x2 s2) (h3 : RdR isName (fun x => x.size ≤ 32) txt s2 x3 s3) (h4 : RdR (rNum 2147483647) (rNum 2147483647) bNum s3 x4 s4) (h5 : RdR isName (fun x => x.size ≤ 32) txt s4 x5 s5) (h6 : RdR (rNum 1000) (rNum 1000) bNum s5 x6 s6) (h7 : RdR (fun _ : Bool => True) (fun _ => True) bTruth s6 x7 s7) : RdR rEvent eventOk bEvent s ⟨(x0, x1), x2, x3, x4, x5, x6, x7⟩ s7 :=
  (h0.seq (pf_num (by decide)) (h1.seq (pf_num (by decide)) (h2.seq pf_vec (h3.seq pf_name (h4.seq (pf_num (by decide)) (h5.seq pf_name (h6.seq (pf_num (by decide)) h7))))))).map (ok2 := rEvent) (iv2 := eventOk) (b2 := bEvent) (fun p => (⟨(p.1, p.2.1), p.2.2.1, p.2.2.2.1, p.2.2.2.2.1, p.2.2.2.2.2.1, p.2.2.2.2.2.2.1, p.2.2.2.2.2.2.2⟩ : EventD)) (fun x => (x.dot.1, (x.dot.2, (x.deps, (x.cart, (x.epoch, (x.sku, (x.qty, x.clears)))))))) rfl (fun y => by unfold rEvent; simp) (fun y => rfl) (fun ⟨a, b, c, d, e, f, g, _⟩ => by
    have h := c.1
    unfold rNum at a b e g
    dsimp only at a b d e f g h
    exact ⟨i64In_mk (by show -9223372036854775808 ≤ x0 ∧ x0 ≤ 9223372036854775807; omega), i64In_mk (by show -9223372036854775808 ≤ x1 ∧ x1 ≤ 9223372036854775807; omega), by show x2.length ≤ _; omega, by simp only [maxEl]; omega, i64In_mk (by show -9223372036854775808 ≤ x4 ∧ x4 ≤ 9223372036854775807; omega), by simp only [maxEl]; omega, i64In_mk (by show -9223372036854775808 ≤ x6 ∧ x6 ≤ 9223372036854775807; omega)⟩)
theorem revent_spec {L : List HP} {b : Nat} {s : RS} (hn : s.n + s.b.length ≤ 140737488355328) : Fn Try.prog 86 #[.pointer (some ⟨b, 0, none⟩)] (rdr b s :: L) (fun v L' => ∃ x A c s', v = .agg (List.toArray (eventC x (A, c))) ∧ L' = sl (intR .i64) A c x.deps :: rdr b s' :: L ∧ RdR rEvent eventOk bEvent s x s') := by
  refine Fn_enter Try.func86 rfl rfl rfl rfl ?_
  refine T_region ?_
  refine TL_alloc rfl rfl ?_
  intro b2
  refine TL_nil ?_
  refine T_region ?_
  refine TL_y rfl rfl (Y_build rfl rfl) ?_
  refine TL_alloc rfl rfl ?_
  intro b3
  refine TL_store rfl rfl rfl rfl rfl rfl ?_
  refine TL_nil ?_
  refine T_region ?_
  refine TL_y rfl rfl (Y_move rfl) ?_
  refine TL_pullk b ?_
  refine TL_call rfl rfl (number_spec 6 (by decide) hn) ?_
  rintro _ _ ⟨x0, s0, rfl, rfl, h0⟩
  have ht0 := h0.tot
  refine TL_y rfl rfl (Y_field_addr rfl) ?_
  refine TL_y rfl rfl (Y_field_addr rfl) ?_
  refine TL_store rfl rfl rfl rfl rfl rfl ?_
  refine TL_nil ?_
  refine T_region ?_
  refine TL_y rfl rfl (Y_move rfl) ?_
  refine TL_pullk b ?_
  refine TL_call rfl rfl (number_spec 2147483647 (by decide) (by omega)) ?_
  rintro _ _ ⟨x1, s1, rfl, rfl, h1⟩
  have ht1 := h1.tot
  refine TL_y rfl rfl (Y_field_addr rfl) ?_
  refine TL_y rfl rfl (Y_field_addr rfl) ?_
  refine TL_store rfl rfl rfl rfl rfl rfl ?_
  refine TL_nil ?_
  refine T_region ?_
  refine TL_y rfl rfl (Y_move rfl) ?_
  refine TL_pullk b ?_
  refine TL_call rfl rfl (rvector_spec (by omega)) ?_
  rintro _ _ ⟨x2, A2, c2, s2, rfl, rfl, h2⟩
  have ht2 := h2.tot
  refine TL_y rfl rfl (Y_field_addr rfl) ?_
  refine TL_store rfl rfl rfl rfl rfl rfl ?_
  refine TL_nil ?_
  refine T_region ?_
  refine TL_y rfl rfl (Y_move rfl) ?_
  refine TL_pullk b ?_
  refine TL_call rfl rfl (rname_spec (by omega)) ?_
  rintro _ _ ⟨x3, s3, rfl, rfl, h3⟩
  have ht3 := h3.tot
  refine TL_y rfl rfl (Y_field_addr rfl) ?_
  refine TL_store rfl rfl rfl rfl rfl rfl ?_
  refine TL_nil ?_
  refine T_region ?_
  refine TL_y rfl rfl (Y_move rfl) ?_
  refine TL_pullk b ?_
  refine TL_call rfl rfl (number_spec 2147483647 (by decide) (by omega)) ?_
  rintro _ _ ⟨x4, s4, rfl, rfl, h4⟩
  have ht4 := h4.tot
  refine TL_y rfl rfl (Y_field_addr rfl) ?_
  refine TL_store rfl rfl rfl rfl rfl rfl ?_
  refine TL_nil ?_
  refine T_region ?_
  refine TL_y rfl rfl (Y_move rfl) ?_
  refine TL_pullk b ?_
  refine TL_call rfl rfl (rname_spec (by omega)) ?_
  rintro _ _ ⟨x5, s5, rfl, rfl, h5⟩
  have ht5 := h5.tot
  refine TL_y rfl rfl (Y_field_addr rfl) ?_
  refine TL_store rfl rfl rfl rfl rfl rfl ?_
  refine TL_nil ?_
  refine T_region ?_
  refine TL_y rfl rfl (Y_move rfl) ?_
  refine TL_pullk b ?_
  refine TL_call rfl rfl (number_spec 1000 (by decide) (by omega)) ?_
  rintro _ _ ⟨x6, s6, rfl, rfl, h6⟩
  have ht6 := h6.tot
  refine TL_y rfl rfl (Y_field_addr rfl) ?_
  refine TL_store rfl rfl rfl rfl rfl rfl ?_
  refine TL_nil ?_
  refine T_region ?_
  refine TL_y rfl rfl (Y_move rfl) ?_
  refine TL_pullk b ?_
  refine TL_call rfl rfl (rtruth_spec (by omega)) ?_
  rintro _ _ ⟨x7, s7, rfl, rfl, h7⟩
  refine TL_y rfl rfl (Y_field_addr rfl) ?_
  refine TL_store rfl rfl rfl rfl rfl rfl ?_
  refine TL_nil ?_
  refine T_region ?_
  refine TL_y rfl rfl (Y_load_agg rfl rfl) ?_
  refine TL_store rfl rfl rfl rfl rfl rfl ?_
  refine TL_nil ?_
  refine T_ret ?_
  exact RetG_1 (.inl rfl) rfl (ResV.agg rfl rfl) GivesTo.g (⟨⟨(x0, x1), x2, x3, x4, x5, x6, x7⟩, A2, c2, s7, rfl, rfl, eventRd h0 h1 h2 h3 h4 h5 h6 h7⟩)
theorem votedRd {s s0 s1 s2 : RS} {x0 : Int} {x1 : Int × Int} {x2 : EntryD} (h0 : RdR (rNum 2147483647) (rNum 2147483647) bNum s x0 s0) (h1 : RdR rBal rBal bBal s0 x1 s1) (h2 : RdR rEntry entryIv bEntry s1 x2 s2) : RdR rVoted votedOk bVoted s ⟨x0, x1, x2⟩ s2 :=
  (h0.seq (pf_num (by decide)) (h1.seq pf_bal h2)).map (ok2 := rVoted) (iv2 := votedOk) (b2 := bVoted) (fun p => (⟨p.1, p.2.1, p.2.2⟩ : VotedD)) (fun x => (x.slot, (x.bal, x.en))) rfl (fun y => Iff.rfl) (fun y => rfl) (fun ⟨a, b, c⟩ => by
    obtain ⟨b1, b2⟩ := b
    unfold rNum at a b1 b2
    dsimp only at a b1 b2
    exact ⟨i64In_mk (by show -9223372036854775808 ≤ x0 ∧ x0 ≤ 9223372036854775807; omega), i64In_mk (by show -9223372036854775808 ≤ x1.1 ∧ x1.1 ≤ 9223372036854775807; omega), i64In_mk (by show -9223372036854775808 ≤ x1.2 ∧ x1.2 ≤ 9223372036854775807; omega), c⟩)
theorem rvoted_spec {L : List HP} {b : Nat} {s : RS} (hn : s.n + s.b.length ≤ 140737488355328) : Fn Try.prog 110 #[.pointer (some ⟨b, 0, none⟩)] (rdr b s :: L) (fun v L' => ∃ x A c s', v = .agg (List.toArray (votedC x (A, c))) ∧ L' = sl (intR .i64) A c x.en.order.cut :: rdr b s' :: L ∧ RdR rVoted votedOk bVoted s x s') := by
  refine Fn_enter Try.func110 rfl rfl rfl rfl ?_
  refine T_region ?_
  refine TL_alloc rfl rfl ?_
  intro b2
  refine TL_nil ?_
  refine T_region ?_
  refine TL_y rfl rfl (Y_move rfl) ?_
  refine TL_pullk b ?_
  refine TL_call rfl rfl (number_spec 2147483647 (by decide) hn) ?_
  rintro _ _ ⟨x0, s0, rfl, rfl, h0⟩
  have ht0 := h0.tot
  refine TL_y rfl rfl (Y_build rfl rfl) ?_
  refine TL_alloc rfl rfl ?_
  intro b3
  refine TL_store rfl rfl rfl rfl rfl rfl ?_
  refine TL_nil ?_
  refine T_region ?_
  refine TL_y rfl rfl (Y_move rfl) ?_
  refine TL_pullk b ?_
  refine TL_call rfl rfl (rballot_spec (by omega)) ?_
  rintro _ _ ⟨x1, s1, rfl, rfl, h1⟩
  have ht1 := h1.tot
  refine TL_y rfl rfl (Y_field_addr rfl) ?_
  refine TL_store rfl rfl rfl rfl rfl rfl ?_
  refine TL_nil ?_
  refine T_region ?_
  refine TL_y rfl rfl (Y_move rfl) ?_
  refine TL_pullk b ?_
  refine TL_call rfl rfl (rentry_spec (by omega)) ?_
  rintro _ _ ⟨x2, A2, c2, s2, rfl, rfl, h2⟩
  refine TL_y rfl rfl (Y_field_addr rfl) ?_
  refine TL_store rfl rfl rfl rfl rfl rfl ?_
  refine TL_nil ?_
  refine T_region ?_
  refine TL_y rfl rfl (Y_load_agg rfl rfl) ?_
  refine TL_store rfl rfl rfl rfl rfl rfl ?_
  refine TL_nil ?_
  refine T_ret ?_
  exact RetG_1 (.inl rfl) rfl (ResV.agg rfl rfl) GivesTo.g (⟨⟨x0, x1, x2⟩, A2, c2, s2, rfl, rfl, votedRd h0 h1 h2⟩)
theorem list_voted_spec {L : List HP} {b : Nat} {s : RS} (most : Nat) (hmost : most ≤ 4096) (hn : s.n + s.b.length ≤ 140737488355328) : Fn Try.prog 109 #[.pointer (some ⟨b, 0, none⟩), .int .i64 (most : Int), .func (.func 110) #[.pointer (some ⟨b, 0, none⟩)] #[]] (rdr b s :: L) (fun v L' => ∃ xs A c s', v = .slice A xs.length c ∧ L' = sl votedR A c xs :: rdr b s' :: L ∧ RdR (okL rVoted most) (okL votedOk most) (bList bVoted) s xs s') := by
  refine Fn_enter Try.func109 rfl rfl rfl rfl ?_
  refine T_region ?_
  refine TL_y rfl rfl (Y_assign rfl) ?_
  refine TL_nil ?_
  refine T_region ?_
  refine TL_y rfl rfl (Y_assign rfl) ?_
  refine TL_nil ?_
  refine T_seq ?_
  refine T_region ?_
  refine TL_y rfl rfl (Y_move rfl) ?_
  refine TL_y rfl rfl (Y_move rfl) ?_
  refine TL_call rfl rfl (number_spec (most : Int) (by omega) hn) ?_
  rintro _ _ ⟨x0, s0, rfl, rfl, h0⟩
  obtain ⟨m, rfl⟩ : ∃ m : Nat, x0 = (m : Int) := ⟨x0.toNat, by have := h0.iv; unfold rNum at this; omega⟩
  have hm := h0.iv
  unfold rNum at hm
  have htot := h0.tot
  refine TL_y rfl rfl (Y_assign rfl) ?_
  refine TL_nil ?_
  refine T_block ?_
  refine T_loopK (σ := LsS VotedD) [0, 2] (fun g => g.xs.length ≤ m ∧ LI rVoted votedOk bVoted m s0 g.xs g.s) (fun g kv => (8, .int .i64 ((m : Int) - (g.xs.length : Int))) :: (7, .slice g.A g.xs.length g.c) :: kv) (fun g => osl votedR 104 g.A g.c g.xs :: rdr b g.s :: L) (fun g => m - g.xs.length) (⟨[], s0, none, 0⟩) rfl (⟨Nat.zero_le _, LI.zero⟩) (osl_nil _ _ _ _) (sub_cons (by show some (Value.int .i64 (m : Int)) = some (Value.int .i64 ((m : Int) - (([] : List VotedD).length : Int))); simp) (sub_cons rfl (sub_cons rfl (sub_cons rfl (sub_nil))))) ?_
  rintro ⟨xs, st, A, c⟩ ⟨hl, hli⟩
  dsimp only at hl hli ⊢
  have htot2 := hli.tot
  refine T_seq ?_
  refine T_region ?_
  refine TL_y rfl rfl (Y_move rfl) ?_
  refine TL_y rfl rfl (Y_gt rfl rfl) ?_
  refine TL_y rfl rfl (Y_move rfl) ?_
  refine TL_splitd 14 rfl (fun h14 => ?_) (fun h14 => ?_)
  · refine TL_grun rfl rfl ?_
    refine TL_y rfl rfl (Y_move rfl) ?_
    refine TL_grun rfl rfl ?_
    refine TL_y rfl rfl (Y_nil_check rfl) ?_
    refine TL_grun rfl rfl ?_
    refine TL_y rfl rfl (Y_field_addr rfl) ?_
    refine TL_grun rfl rfl ?_
    refine TL_y rfl rfl (Y_load_rdr rfl) ?_
    refine TL_grun rfl rfl ?_
    refine TL_y rfl rfl (Y_not rfl) ?_
    refine TL_y rfl rfl (Y_pick_t rfl rfl) ?_
    refine TL_nil ?_
    refine T_cond rfl (fun h20 => ?_) (fun h20 => ?_)
    · refine T_skip ?_
      refine thenS_normal ?_
      refine T_seq ?_
      refine T_block ?_
      refine T_region_last ?_
      refine TL_y rfl rfl (Y_move rfl) ?_
      refine TL_y rfl rfl (Y_move rfl) ?_
      refine TL_pullk b ?_
      refine TL_call_fn rfl rfl rfl (rvoted_spec (by omega)) ?_
      rintro _ _ ⟨x, A25, c25, s2, rfl, rfl, hx⟩
      refine TL_build_slice rfl rfl rfl rfl rfl rfl ?_
      intro b26
      refine TL_osl (k := 1) votedR [x] (one_cell (ex_rep (A25, c25) (sep_sl slk) hx.iv)) rfl (by decide) ?_
      refine TL_freeze_osl ?_
      refine TL_name 26 (v' := .slice (some ⟨b26, 0, none⟩) [x].length 1) rfl rfl ?_
      refine TL_append rfl rfl rfl rfl rfl slk (by simp only [List.length_cons, List.length_nil]; omega) ?_
      intro A27 c27
      refine TL_y rfl rfl (Y_assign rfl) ?_
      refine TL_nil ?_
      refine inB_normal ?_
      refine thenS_normal ?_
      refine T_region_last ?_
      refine TL_y rfl rfl (Y_move rfl) ?_
      refine TL_y rfl rfl (Y_sub rfl rfl (by omega)) ?_
      refine TL_name 22 (v' := .int .i64 ((m : Int) - ((xs ++ [x]).length : Int))) rfl (by congr 1; simp; omega) ?_
      refine TL_y rfl rfl (Y_assign rfl) ?_
      refine TL_nil ?_
      refine thenS_normal ?_
      exact ⟨⟨xs ++ [x], s2, A27, c27⟩, ⟨by simp only [List.length_append, List.length_cons, List.length_nil]; omega, hli.next pf_voted (by omega) hx⟩, by simp only [List.length_append, List.length_cons, List.length_nil]; omega, holds_to (sub_cons rfl (sub_cons rfl (sub_cons rfl (sub_cons rfl (sub_nil))))) GivesTo.g⟩
    · refine T_exit ?_
      refine thenS_exit ?_
      refine thenS_exit ?_
      refine inB_hit ?_
      refine thenS_normal ?_
      have hd : xs.length = m ∨ st.bad = true := .inr (by simpa using h20)
      refine T_pullo A c ?_
      refine T_freeze_osl ?_
      refine T_region ?_
      refine TL_y rfl rfl (Y_move rfl) ?_
      refine TL_y rfl rfl (Y_assign rfl) ?_
      refine TL_nil ?_
      refine T_ret ?_
      exact RetG_1 (.inl rfl) rfl (ResV.tmp rfl) GivesTo.g (⟨xs, A, c, st, rfl, rfl, hli.done hmost h0 hl hd⟩)
  · refine TL_gskip rfl rfl rfl rfl ?_
    refine TL_gskip rfl rfl rfl rfl ?_
    refine TL_gskip rfl rfl rfl rfl ?_
    refine TL_gskip rfl rfl rfl rfl ?_
    refine TL_gskip rfl rfl rfl rfl ?_
    refine TL_y rfl rfl (Y_pick_f rfl rfl) ?_
    refine TL_nil ?_
    refine T_cond_false rfl ?_
    refine T_exit ?_
    refine thenS_exit ?_
    refine thenS_exit ?_
    refine inB_hit ?_
    refine thenS_normal ?_
    have hd : xs.length = m ∨ st.bad = true := .inl (by omega)
    refine T_pullo A c ?_
    refine T_freeze_osl ?_
    refine T_region ?_
    refine TL_y rfl rfl (Y_move rfl) ?_
    refine TL_y rfl rfl (Y_assign rfl) ?_
    refine TL_nil ?_
    refine T_ret ?_
    exact RetG_1 (.inl rfl) rfl (ResV.tmp rfl) GivesTo.g (⟨xs, A, c, st, rfl, rfl, hli.done hmost h0 hl hd⟩)
theorem list_event_spec {L : List HP} {b : Nat} {s : RS} (most : Nat) (hmost : most ≤ 4096) (hn : s.n + s.b.length ≤ 140737488355328) : Fn Try.prog 112 #[.pointer (some ⟨b, 0, none⟩), .int .i64 (most : Int), .func (.func 86) #[.pointer (some ⟨b, 0, none⟩)] #[]] (rdr b s :: L) (fun v L' => ∃ xs A c s', v = .slice A xs.length c ∧ L' = sl eventR A c xs :: rdr b s' :: L ∧ RdR (okL rEvent most) (okL eventOk most) (bList bEvent) s xs s') := by
  refine Fn_enter Try.func112 rfl rfl rfl rfl ?_
  refine T_region ?_
  refine TL_y rfl rfl (Y_assign rfl) ?_
  refine TL_nil ?_
  refine T_region ?_
  refine TL_y rfl rfl (Y_assign rfl) ?_
  refine TL_nil ?_
  refine T_seq ?_
  refine T_region ?_
  refine TL_y rfl rfl (Y_move rfl) ?_
  refine TL_y rfl rfl (Y_move rfl) ?_
  refine TL_call rfl rfl (number_spec (most : Int) (by omega) hn) ?_
  rintro _ _ ⟨x0, s0, rfl, rfl, h0⟩
  obtain ⟨m, rfl⟩ : ∃ m : Nat, x0 = (m : Int) := ⟨x0.toNat, by have := h0.iv; unfold rNum at this; omega⟩
  have hm := h0.iv
  unfold rNum at hm
  have htot := h0.tot
  refine TL_y rfl rfl (Y_assign rfl) ?_
  refine TL_nil ?_
  refine T_block ?_
  refine T_loopK (σ := LsS EventD) [0, 2] (fun g => g.xs.length ≤ m ∧ LI rEvent eventOk bEvent m s0 g.xs g.s) (fun g kv => (8, .int .i64 ((m : Int) - (g.xs.length : Int))) :: (7, .slice g.A g.xs.length g.c) :: kv) (fun g => osl eventR 75 g.A g.c g.xs :: rdr b g.s :: L) (fun g => m - g.xs.length) (⟨[], s0, none, 0⟩) rfl (⟨Nat.zero_le _, LI.zero⟩) (osl_nil _ _ _ _) (sub_cons (by show some (Value.int .i64 (m : Int)) = some (Value.int .i64 ((m : Int) - (([] : List EventD).length : Int))); simp) (sub_cons rfl (sub_cons rfl (sub_cons rfl (sub_nil))))) ?_
  rintro ⟨xs, st, A, c⟩ ⟨hl, hli⟩
  dsimp only at hl hli ⊢
  have htot2 := hli.tot
  refine T_seq ?_
  refine T_region ?_
  refine TL_y rfl rfl (Y_move rfl) ?_
  refine TL_y rfl rfl (Y_gt rfl rfl) ?_
  refine TL_y rfl rfl (Y_move rfl) ?_
  refine TL_splitd 14 rfl (fun h14 => ?_) (fun h14 => ?_)
  · refine TL_grun rfl rfl ?_
    refine TL_y rfl rfl (Y_move rfl) ?_
    refine TL_grun rfl rfl ?_
    refine TL_y rfl rfl (Y_nil_check rfl) ?_
    refine TL_grun rfl rfl ?_
    refine TL_y rfl rfl (Y_field_addr rfl) ?_
    refine TL_grun rfl rfl ?_
    refine TL_y rfl rfl (Y_load_rdr rfl) ?_
    refine TL_grun rfl rfl ?_
    refine TL_y rfl rfl (Y_not rfl) ?_
    refine TL_y rfl rfl (Y_pick_t rfl rfl) ?_
    refine TL_nil ?_
    refine T_cond rfl (fun h20 => ?_) (fun h20 => ?_)
    · refine T_skip ?_
      refine thenS_normal ?_
      refine T_seq ?_
      refine T_block ?_
      refine T_region_last ?_
      refine TL_y rfl rfl (Y_move rfl) ?_
      refine TL_y rfl rfl (Y_move rfl) ?_
      refine TL_pullk b ?_
      refine TL_call_fn rfl rfl rfl (revent_spec (by omega)) ?_
      rintro _ _ ⟨x, A25, c25, s2, rfl, rfl, hx⟩
      refine TL_build_slice rfl rfl rfl rfl rfl rfl ?_
      intro b26
      refine TL_osl (k := 1) eventR [x] (one_cell (ex_rep (A25, c25) (sep_sl slk) hx.iv)) rfl (by decide) ?_
      refine TL_freeze_osl ?_
      refine TL_name 26 (v' := .slice (some ⟨b26, 0, none⟩) [x].length 1) rfl rfl ?_
      refine TL_append rfl rfl rfl rfl rfl slk (by simp only [List.length_cons, List.length_nil]; omega) ?_
      intro A27 c27
      refine TL_y rfl rfl (Y_assign rfl) ?_
      refine TL_nil ?_
      refine inB_normal ?_
      refine thenS_normal ?_
      refine T_region_last ?_
      refine TL_y rfl rfl (Y_move rfl) ?_
      refine TL_y rfl rfl (Y_sub rfl rfl (by omega)) ?_
      refine TL_name 22 (v' := .int .i64 ((m : Int) - ((xs ++ [x]).length : Int))) rfl (by congr 1; simp; omega) ?_
      refine TL_y rfl rfl (Y_assign rfl) ?_
      refine TL_nil ?_
      refine thenS_normal ?_
      exact ⟨⟨xs ++ [x], s2, A27, c27⟩, ⟨by simp only [List.length_append, List.length_cons, List.length_nil]; omega, hli.next pf_event (by omega) hx⟩, by simp only [List.length_append, List.length_cons, List.length_nil]; omega, holds_to (sub_cons rfl (sub_cons rfl (sub_cons rfl (sub_cons rfl (sub_nil))))) GivesTo.g⟩
    · refine T_exit ?_
      refine thenS_exit ?_
      refine thenS_exit ?_
      refine inB_hit ?_
      refine thenS_normal ?_
      have hd : xs.length = m ∨ st.bad = true := .inr (by simpa using h20)
      refine T_pullo A c ?_
      refine T_freeze_osl ?_
      refine T_region ?_
      refine TL_y rfl rfl (Y_move rfl) ?_
      refine TL_y rfl rfl (Y_assign rfl) ?_
      refine TL_nil ?_
      refine T_ret ?_
      exact RetG_1 (.inl rfl) rfl (ResV.tmp rfl) GivesTo.g (⟨xs, A, c, st, rfl, rfl, hli.done hmost h0 hl hd⟩)
  · refine TL_gskip rfl rfl rfl rfl ?_
    refine TL_gskip rfl rfl rfl rfl ?_
    refine TL_gskip rfl rfl rfl rfl ?_
    refine TL_gskip rfl rfl rfl rfl ?_
    refine TL_gskip rfl rfl rfl rfl ?_
    refine TL_y rfl rfl (Y_pick_f rfl rfl) ?_
    refine TL_nil ?_
    refine T_cond_false rfl ?_
    refine T_exit ?_
    refine thenS_exit ?_
    refine thenS_exit ?_
    refine inB_hit ?_
    refine thenS_normal ?_
    have hd : xs.length = m ∨ st.bad = true := .inl (by omega)
    refine T_pullo A c ?_
    refine T_freeze_osl ?_
    refine T_region ?_
    refine TL_y rfl rfl (Y_move rfl) ?_
    refine TL_y rfl rfl (Y_assign rfl) ?_
    refine TL_nil ?_
    refine T_ret ?_
    exact RetG_1 (.inl rfl) rfl (ResV.tmp rfl) GivesTo.g (⟨xs, A, c, st, rfl, rfl, hli.done hmost h0 hl hd⟩)
end Go.SL
