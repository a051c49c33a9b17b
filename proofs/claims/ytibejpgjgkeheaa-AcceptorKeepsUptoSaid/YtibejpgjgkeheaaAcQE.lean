/- What the laws of this claim need, together: the logic, data in memory, the walks of functions. -/
import Derived.Test.YtibejpgjgkeheaaAcQD
import Derived.Test.YtibejpgjgkeheaaRows
import Derived.WalkKit
import Derived.JoinedCond
import Derived.Deep.CondSized
set_option linter.unusedVariables false
set_option linter.unusedSimpArgs false
set_option linter.unusedVariables false
set_option linter.unusedSimpArgs false
namespace Go.SL
open Go Go.Proofs
theorem rballot_spec {L : List HP} {b : Nat} {s : RS} (hn : s.n + s.b.length ≤ 140737488355328) : Fn Try.prog 140 #[.pointer (some ⟨b, 0, none⟩)] (rdr b s :: L) (fun v L' => ∃ x s', v = pairV x ∧ L' = rdr b s' :: L ∧ RdR rBal rBal bBal s x s') := by
  refine Fn_enter Try.func140 rfl rfl rfl rfl ?_
  refine T_region ?_
  refine TL_alloc rfl rfl ?_
  intro b2
  refine TL_nil ?_
  refine T_region ?_
  refine TL_y rfl rfl (Y_move rfl) ?_
  refine TL_pullk b ?_
  refine TL_call rfl rfl (number_spec 2147483647 (by decide) hn) ?_
  rintro _ _ ⟨x0, s0, rfl, rfl, h0⟩
  have ht0 := h0.tot
  refine TL_y rfl rfl (Y_assign rfl) ?_
  refine TL_nil ?_
  refine T_region ?_
  refine TL_y rfl rfl (Y_move rfl) ?_
  refine TL_y rfl rfl (Y_move rfl) ?_
  refine TL_pullk b ?_
  refine TL_call rfl rfl (number_spec 6 (by decide) (by omega)) ?_
  rintro _ _ ⟨x1, s1, rfl, rfl, h1⟩
  refine TL_y rfl rfl (Y_build rfl rfl) ?_
  refine TL_store rfl rfl rfl rfl rfl rfl ?_
  refine TL_nil ?_
  refine T_ret ?_
  exact RetG_1 (.inl rfl) rfl (ResV.agg rfl rfl) GivesTo.g (⟨(x0, x1), s1, rfl, rfl, h0.seq (pf_num (by decide)) h1⟩)
theorem sealR {s s0 s1 s2 s3 : RS} {x0 x1 : ByteArray} {x2 : Int} {x3 : List Int} (h0 : RdR isName (fun x => x.size ≤ 32) txt s x0 s0) (h1 : RdR isName (fun x => x.size ≤ 32) txt s0 x1 s1) (h2 : RdR (rNum 2147483647) (rNum 2147483647) bNum s1 x2 s2) (h3 : RdR rVec (okL (rNum 2147483647) 7) bVec s2 x3 s3) : RdR rSeal orderOk' bSeal s ⟨x0, x1, x2, x3⟩ s3 :=
  (h0.seq pf_name (h1.seq pf_name (h2.seq (pf_num (by decide)) h3))).map (ok2 := rSeal) (iv2 := orderOk') (b2 := bSeal) (fun p => (⟨p.1, p.2.1, p.2.2.1, p.2.2.2⟩ : OrderD)) (fun x => (x.token, (x.cart, (x.epoch, x.cut)))) rfl (fun y => Iff.rfl) (fun y => rfl) (fun ⟨a, b, c, d⟩ => by
    have h := d.1
    unfold rNum at c
    dsimp only at a b c h
    exact ⟨by simp only [maxEl]; omega, by simp only [maxEl]; omega, i64In_mk (by show -9223372036854775808 ≤ x2 ∧ x2 ≤ 9223372036854775807; omega), by show x3.length ≤ _; omega⟩)
theorem rseal_spec {L : List HP} {b : Nat} {s : RS} (hn : s.n + s.b.length ≤ 140737488355328) : Fn Try.prog 168 #[.pointer (some ⟨b, 0, none⟩)] (rdr b s :: L) (fun v L' => ∃ x A c s', v = .agg (List.toArray (orderC x (A, c))) ∧ L' = sl (intR .i64) A c x.cut :: rdr b s' :: L ∧ RdR rSeal orderOk' bSeal s x s') := by
  refine Fn_enter Try.func168 rfl rfl rfl rfl ?_
  refine T_region ?_
  refine TL_alloc rfl rfl ?_
  intro b2
  refine TL_nil ?_
  refine T_region ?_
  refine TL_y rfl rfl (Y_move rfl) ?_
  refine TL_pullk b ?_
  refine TL_call rfl rfl (rname_spec hn) ?_
  rintro _ _ ⟨x0, s0, rfl, rfl, h0⟩
  have ht0 := h0.tot
  refine TL_y rfl rfl (Y_build rfl rfl) ?_
  refine TL_alloc rfl rfl ?_
  intro b3
  refine TL_store rfl rfl rfl rfl rfl rfl ?_
  refine TL_nil ?_
  refine T_region ?_
  refine TL_y rfl rfl (Y_move rfl) ?_
  refine TL_pullk b ?_
  refine TL_call rfl rfl (rname_spec (by omega)) ?_
  rintro _ _ ⟨x1, s1, rfl, rfl, h1⟩
  have ht1 := h1.tot
  refine TL_y rfl rfl (Y_field_addr rfl) ?_
  refine TL_store rfl rfl rfl rfl rfl rfl ?_
  refine TL_nil ?_
  refine T_region ?_
  refine TL_y rfl rfl (Y_move rfl) ?_
  refine TL_pullk b ?_
  refine TL_call rfl rfl (number_spec 2147483647 (by decide) (by omega)) ?_
  rintro _ _ ⟨x2, s2, rfl, rfl, h2⟩
  have ht2 := h2.tot
  refine TL_y rfl rfl (Y_field_addr rfl) ?_
  refine TL_store rfl rfl rfl rfl rfl rfl ?_
  refine TL_nil ?_
  refine T_region ?_
  refine TL_y rfl rfl (Y_move rfl) ?_
  refine TL_pullk b ?_
  refine TL_call rfl rfl (rvector_spec (by omega)) ?_
  rintro _ _ ⟨x3, A3, c3, s3, rfl, rfl, h3⟩
  refine TL_y rfl rfl (Y_field_addr rfl) ?_
  refine TL_store rfl rfl rfl rfl rfl rfl ?_
  refine TL_nil ?_
  refine T_region ?_
  refine TL_y rfl rfl (Y_load_agg rfl rfl) ?_
  refine TL_store rfl rfl rfl rfl rfl rfl ?_
  refine TL_nil ?_
  refine T_ret ?_
  exact RetG_1 (.inl rfl) rfl (ResV.agg rfl rfl) GivesTo.g (⟨⟨x0, x1, x2, x3⟩, A3, c3, s3, rfl, rfl, sealR h0 h1 h2 h3⟩)
def entryIv (e : EntryD) : Prop := orderOk' e.order
theorem entryR_t {s s0 : RS} (h0 : RdR (fun _ : Bool => True) (fun _ => True) bTruth s true s0) : RdR rEntry entryIv bEntry s ⟨true, ⟨⟨#[]⟩, ⟨#[]⟩, 0, []⟩⟩ s0 := by
  refine ⟨fun k => ?_, fun y r hs hy he => ?_, h0.tot, ?_⟩
  · obtain ⟨a1, _, a3⟩ := h0.snd k
    exact ⟨a1, by decide, by simpa [bEntry] using a3⟩
  · unfold bEntry at he
    rw [List.append_assoc] at he
    exact h0.cmp _ _ hs trivial he
  · unfold entryIv orderOk'; decide
theorem entryR_f {s s0 s1 : RS} {o : OrderD} (h0 : RdR (fun _ : Bool => True) (fun _ => True) bTruth s false s0) (h1 : RdR rSeal orderOk' bSeal s0 o s1) : RdR rEntry entryIv bEntry s ⟨false, o⟩ s1 := by
  refine ⟨fun k => ?_, fun y r hs hy he => ?_, by rw [h1.tot, h0.tot], h1.iv⟩
  · obtain ⟨c1, c2, c3⟩ := h1.snd k
    obtain ⟨a1, _, a3⟩ := h0.snd c1
    exact ⟨a1, by unfold rEntry; simpa using c2, by rw [a3, c3]; simp [bEntry]⟩
  · unfold bEntry at he
    rw [List.append_assoc] at he
    have g := h0.cmp _ _ hs trivial he
    obtain ⟨a1, _, a3⟩ := h0.snd g
    obtain ⟨e1, e2⟩ := pf_truth (a3.symm.trans he)
    unfold rEntry at hy
    rw [← e1] at hy e2
    exact h1.cmp y.order r g (by simpa using hy) (by simpa using e2)
theorem rentry_spec {L : List HP} {b : Nat} {s : RS} (hn : s.n + s.b.length ≤ 140737488355328) : Fn Try.prog 141 #[.pointer (some ⟨b, 0, none⟩)] (rdr b s :: L) (fun v L' => ∃ x A c s', v = .agg (List.toArray (entryC x (A, c))) ∧ L' = sl (intR .i64) A c x.order.cut :: rdr b s' :: L ∧ RdR rEntry entryIv bEntry s x s') := by
  refine Fn_enter Try.func141 rfl rfl rfl rfl ?_
  refine T_region ?_
  refine TL_alloc rfl rfl ?_
  intro b2
  refine TL_nil ?_
  refine T_seq ?_
  refine T_region ?_
  refine TL_y rfl rfl (Y_move rfl) ?_
  refine TL_pullk b ?_
  refine TL_call rfl rfl (rtruth_spec hn) ?_
  rintro _ _ ⟨x0, s0, rfl, rfl, h0⟩
  have ht0 := h0.tot
  refine TL_nil ?_
  refine T_cond rfl (fun h4 => ?_) (fun h4 => ?_)
  · refine T_region ?_
    refine TL_y rfl rfl (Y_build rfl rfl) ?_
    refine TL_store rfl rfl rfl rfl rfl rfl ?_
    refine TL_nil ?_
    refine T_ret ?_
    refine thenS_ret ?_
    rw [h4] at h0
    refine RetQ.gives (slnil (A := none) (c := 0) (R := intR .i64)).lay ?_
    exact RetG_1 (.inl rfl) rfl (ResV.agg rfl rfl) GivesTo.g (⟨_, none, 0, s0, rfl, rfl, entryR_t h0⟩)
  · refine T_skip ?_
    refine thenS_normal ?_
    refine T_region ?_
    refine TL_y rfl rfl (Y_move rfl) ?_
    refine TL_pullk b ?_
    refine TL_call rfl rfl (rseal_spec (by omega)) ?_
    rintro _ _ ⟨x1, A1, c1, s1, rfl, rfl, h1⟩
    refine TL_y rfl rfl (Y_build rfl rfl) ?_
    refine TL_store rfl rfl rfl rfl rfl rfl ?_
    refine TL_nil ?_
    refine T_ret ?_
    rw [h4] at h0
    exact RetG_1 (.inl rfl) rfl (ResV.agg rfl rfl) GivesTo.g (⟨⟨false, x1⟩, A1, c1, s1, rfl, rfl, entryR_f h0 h1⟩)
theorem eventRd {s s0 s1 s2 s3 s4 s5 s6 s7 : RS} {x0 x1 x4 x6 : Int} {x2 : List Int} {x3 x5 : ByteArray} {x7 : Bool} (h0 : RdR (rNum 6) (rNum 6) bNum s x0 s0) (h1 : RdR (rNum 2147483647) (rNum 2147483647) bNum s0 x1 s1) (h2 : RdR rVec (okL (rNum 2147483647) 7) bVec s1 x2 s2) (h3 : RdR isName (fun x => x.size ≤ 32) txt s2 x3 s3) (h4 : RdR (rNum 2147483647) (rNum 2147483647) bNum s3 x4 s4) (h5 : RdR isName (fun x => x.size ≤ 32) txt s4 x5 s5) (h6 : RdR (rNum 1000) (rNum 1000) bNum s5 x6 s6) (h7 : RdR (fun _ : Bool => True) (fun _ => True) bTruth s6 x7 s7) : RdR rEvent eventOk bEvent s ⟨(x0, x1), x2, x3, x4, x5, x6, x7⟩ s7 :=
  (h0.seq (pf_num (by decide)) (h1.seq (pf_num (by decide)) (h2.seq pf_vec (h3.seq pf_name (h4.seq (pf_num (by decide)) (h5.seq pf_name (h6.seq (pf_num (by decide)) h7))))))).map (ok2 := rEvent) (iv2 := eventOk) (b2 := bEvent) (fun p => (⟨(p.1, p.2.1), p.2.2.1, p.2.2.2.1, p.2.2.2.2.1, p.2.2.2.2.2.1, p.2.2.2.2.2.2.1, p.2.2.2.2.2.2.2⟩ : EventD)) (fun x => (x.dot.1, (x.dot.2, (x.deps, (x.cart, (x.epoch, (x.sku, (x.qty, x.clears)))))))) rfl (fun y => by unfold rEvent; simp) (fun y => rfl) (fun ⟨a, b, c, d, e, f, g, _⟩ => by
    have h := c.1
    unfold rNum at a b e g
    dsimp only at a b d e f g h
    exact ⟨i64In_mk (by show -9223372036854775808 ≤ x0 ∧ x0 ≤ 9223372036854775807; omega), i64In_mk (by show -9223372036854775808 ≤ x1 ∧ x1 ≤ 9223372036854775807; omega), by show x2.length ≤ _; omega, by simp only [maxEl]; omega, i64In_mk (by show -9223372036854775808 ≤ x4 ∧ x4 ≤ 9223372036854775807; omega), by simp only [maxEl]; omega, i64In_mk (by show -9223372036854775808 ≤ x6 ∧ x6 ≤ 9223372036854775807; omega)⟩)
theorem revent_spec {L : List HP} {b : Nat} {s : RS} (hn : s.n + s.b.length ≤ 140737488355328) : Fn Try.prog 146 #[.pointer (some ⟨b, 0, none⟩)] (rdr b s :: L) (fun v L' => ∃ x A c s', v = .agg (List.toArray (eventC x (A, c))) ∧ L' = sl (intR .i64) A c x.deps :: rdr b s' :: L ∧ RdR rEvent eventOk bEvent s x s') := by
  refine Fn_enter Try.func146 rfl rfl rfl rfl ?_
  refine T_region ?_
  refine TL_alloc rfl rfl ?_
  intro b2
  refine TL_nil ?_
  refine T_region ?_
  refine TL_y rfl rfl (Y_build rfl rfl) ?_
  refine TL_alloc rfl rfl ?_
  intro b3
  refine TL_store rfl rfl rfl rfl rfl rfl ?_
  refine TL_nil ?_
  refine T_region ?_
  refine TL_y rfl rfl (Y_move rfl) ?_
  refine TL_pullk b ?_
  refine TL_call rfl rfl (number_spec 6 (by decide) hn) ?_
  rintro _ _ ⟨x0, s0, rfl, rfl, h0⟩
  have ht0 := h0.tot
  refine TL_y rfl rfl (Y_field_addr rfl) ?_
  refine TL_y rfl rfl (Y_field_addr rfl) ?_
  refine TL_store rfl rfl rfl rfl rfl rfl ?_
  refine TL_nil ?_
  refine T_region ?_
  refine TL_y rfl rfl (Y_move rfl) ?_
  refine TL_pullk b ?_
  refine TL_call rfl rfl (number_spec 2147483647 (by decide) (by omega)) ?_
  rintro _ _ ⟨x1, s1, rfl, rfl, h1⟩
  have ht1 := h1.tot
  refine TL_y rfl rfl (Y_field_addr rfl) ?_
  refine TL_y rfl rfl (Y_field_addr rfl) ?_
  refine TL_store rfl rfl rfl rfl rfl rfl ?_
  refine TL_nil ?_
  refine T_region ?_
  refine TL_y rfl rfl (Y_move rfl) ?_
  refine TL_pullk b ?_
  refine TL_call rfl rfl (rvector_spec (by omega)) ?_
  rintro _ _ ⟨x2, A2, c2, s2, rfl, rfl, h2⟩
  have ht2 := h2.tot
  refine TL_y rfl rfl (Y_field_addr rfl) ?_
  refine TL_store rfl rfl rfl rfl rfl rfl ?_
  refine TL_nil ?_
  refine T_region ?_
  refine TL_y rfl rfl (Y_move rfl) ?_
  refine TL_pullk b ?_
  refine TL_call rfl rfl (rname_spec (by omega)) ?_
  rintro _ _ ⟨x3, s3, rfl, rfl, h3⟩
  have ht3 := h3.tot
  refine TL_y rfl rfl (Y_field_addr rfl) ?_
  refine TL_store rfl rfl rfl rfl rfl rfl ?_
  refine TL_nil ?_
  refine T_region ?_
  refine TL_y rfl rfl (Y_move rfl) ?_
  refine TL_pullk b ?_
  refine TL_call rfl rfl (number_spec 2147483647 (by decide) (by omega)) ?_
  rintro _ _ ⟨x4, s4, rfl, rfl, h4⟩
  have ht4 := h4.tot
  refine TL_y rfl rfl (Y_field_addr rfl) ?_
  refine TL_store rfl rfl rfl rfl rfl rfl ?_
  refine TL_nil ?_
  refine T_region ?_
  refine TL_y rfl rfl (Y_move rfl) ?_
  refine TL_pullk b ?_
  refine TL_call rfl rfl (rname_spec (by omega)) ?_
  rintro _ _ ⟨x5, s5, rfl, rfl, h5⟩
  have ht5 := h5.tot
  refine TL_y rfl rfl (Y_field_addr rfl) ?_
  refine TL_store rfl rfl rfl rfl rfl rfl ?_
  refine TL_nil ?_
  refine T_region ?_
  refine TL_y rfl rfl (Y_move rfl) ?_
  refine TL_pullk b ?_
  refine TL_call rfl rfl (number_spec 1000 (by decide) (by omega)) ?_
  rintro _ _ ⟨x6, s6, rfl, rfl, h6⟩
  have ht6 := h6.tot
  refine TL_y rfl rfl (Y_field_addr rfl) ?_
  refine TL_store rfl rfl rfl rfl rfl rfl ?_
  refine TL_nil ?_
  refine T_region ?_
  refine TL_y rfl rfl (Y_move rfl) ?_
  refine TL_pullk b ?_
  refine TL_call rfl rfl (rtruth_spec (by omega)) ?_
  rintro _ _ ⟨x7, s7, rfl, rfl, h7⟩
  refine TL_y rfl rfl (Y_field_addr rfl) ?_
  refine TL_store rfl rfl rfl rfl rfl rfl ?_
  refine TL_nil ?_
  refine T_region ?_
  refine TL_y rfl rfl (Y_load_agg rfl rfl) ?_
  refine TL_store rfl rfl rfl rfl rfl rfl ?_
  refine TL_nil ?_
  refine T_ret ?_
  exact RetG_1 (.inl rfl) rfl (ResV.agg rfl rfl) GivesTo.g (⟨⟨(x0, x1), x2, x3, x4, x5, x6, x7⟩, A2, c2, s7, rfl, rfl, eventRd h0 h1 h2 h3 h4 h5 h6 h7⟩)
theorem votedRd {s s0 s1 s2 : RS} {x0 : Int} {x1 : Int × Int} {x2 : EntryD} (h0 : RdR (rNum 2147483647) (rNum 2147483647) bNum s x0 s0) (h1 : RdR rBal rBal bBal s0 x1 s1) (h2 : RdR rEntry entryIv bEntry s1 x2 s2) : RdR rVoted votedOk bVoted s ⟨x0, x1, x2⟩ s2 :=
  (h0.seq (pf_num (by decide)) (h1.seq pf_bal h2)).map (ok2 := rVoted) (iv2 := votedOk) (b2 := bVoted) (fun p => (⟨p.1, p.2.1, p.2.2⟩ : VotedD)) (fun x => (x.slot, (x.bal, x.en))) rfl (fun y => Iff.rfl) (fun y => rfl) (fun ⟨a, b, c⟩ => by
    obtain ⟨b1, b2⟩ := b
    unfold rNum at a b1 b2
    dsimp only at a b1 b2
    exact ⟨i64In_mk (by show -9223372036854775808 ≤ x0 ∧ x0 ≤ 9223372036854775807; omega), i64In_mk (by show -9223372036854775808 ≤ x1.1 ∧ x1.1 ≤ 9223372036854775807; omega), i64In_mk (by show -9223372036854775808 ≤ x1.2 ∧ x1.2 ≤ 9223372036854775807; omega), c⟩)
theorem rvoted_spec {L : List HP} {b : Nat} {s : RS} (hn : s.n + s.b.length ≤ 140737488355328) : Fn Try.prog 143 #[.pointer (some ⟨b, 0, none⟩)] (rdr b s :: L) (fun v L' => ∃ x A c s', v = .agg (List.toArray (votedC x (A, c))) ∧ L' = sl (intR .i64) A c x.en.order.cut :: rdr b s' :: L ∧ RdR rVoted votedOk bVoted s x s') := by
  refine Fn_enter Try.func143 rfl rfl rfl rfl ?_
  refine T_region ?_
  refine TL_alloc rfl rfl ?_
  intro b2
  refine TL_nil ?_
  refine T_region ?_
  refine TL_y rfl rfl (Y_move rfl) ?_
  refine TL_pullk b ?_
  refine TL_call rfl rfl (number_spec 2147483647 (by decide) hn) ?_
  rintro _ _ ⟨x0, s0, rfl, rfl, h0⟩
  have ht0 := h0.tot
  refine TL_y rfl rfl (Y_build rfl rfl) ?_
  refine TL_alloc rfl rfl ?_
  intro b3
  refine TL_store rfl rfl rfl rfl rfl rfl ?_
  refine TL_nil ?_
  refine T_region ?_
  refine TL_y rfl rfl (Y_move rfl) ?_
  refine TL_pullk b ?_
  refine TL_call rfl rfl (rballot_spec (by omega)) ?_
  rintro _ _ ⟨x1, s1, rfl, rfl, h1⟩
  have ht1 := h1.tot
  refine TL_y rfl rfl (Y_field_addr rfl) ?_
  refine TL_store rfl rfl rfl rfl rfl rfl ?_
  refine TL_nil ?_
  refine T_region ?_
  refine TL_y rfl rfl (Y_move rfl) ?_
  refine TL_pullk b ?_
  refine TL_call rfl rfl (rentry_spec (by omega)) ?_
  rintro _ _ ⟨x2, A2, c2, s2, rfl, rfl, h2⟩
  refine TL_y rfl rfl (Y_field_addr rfl) ?_
  refine TL_store rfl rfl rfl rfl rfl rfl ?_
  refine TL_nil ?_
  refine T_region ?_
  refine TL_y rfl rfl (Y_load_agg rfl rfl) ?_
  refine TL_store rfl rfl rfl rfl rfl rfl ?_
  refine TL_nil ?_
  refine T_ret ?_
  exact RetG_1 (.inl rfl) rfl (ResV.agg rfl rfl) GivesTo.g (⟨⟨x0, x1, x2⟩, A2, c2, s2, rfl, rfl, votedRd h0 h1 h2⟩)
theorem list_voted_spec {L : List HP} {b : Nat} {s : RS} (most : Nat) (hmost : most ≤ 4096) (hn : s.n + s.b.length ≤ 140737488355328) : Fn Try.prog 142 #[.pointer (some ⟨b, 0, none⟩), .int .i64 (most : Int), .func (.func 143) #[.pointer (some ⟨b, 0, none⟩)] #[]] (rdr b s :: L) (fun v L' => ∃ xs A c s', v = .slice A xs.length c ∧ L' = sl votedR A c xs :: rdr b s' :: L ∧ RdR (okL rVoted most) (okL votedOk most) (bList bVoted) s xs s') := by
  refine Fn_enter Try.func142 rfl rfl rfl rfl ?_
  refine T_region ?_
  refine TL_y rfl rfl (Y_assign rfl) ?_
  refine TL_nil ?_
  refine T_region ?_
  refine TL_y rfl rfl (Y_assign rfl) ?_
  refine TL_nil ?_
  refine T_seq ?_
  refine T_region ?_
  refine TL_y rfl rfl (Y_move rfl) ?_
  refine TL_y rfl rfl (Y_move rfl) ?_
  refine TL_call rfl rfl (number_spec (most : Int) (by omega) hn) ?_
  rintro _ _ ⟨x0, s0, rfl, rfl, h0⟩
  obtain ⟨m, rfl⟩ : ∃ m : Nat, x0 = (m : Int) := ⟨x0.toNat, by have := h0.iv; unfold rNum at this; omega⟩
  have hm := h0.iv
  unfold rNum at hm
  have htot := h0.tot
  refine TL_y rfl rfl (Y_assign rfl) ?_
  refine TL_nil ?_
  refine T_block ?_
  refine T_loopK (σ := LsS VotedD) [0, 2] (fun g => g.xs.length ≤ m ∧ LI rVoted votedOk bVoted m s0 g.xs g.s) (fun g kv => (8, .int .i64 ((m : Int) - (g.xs.length : Int))) :: (7, .slice g.A g.xs.length g.c) :: kv) (fun g => osl votedR 50 g.A g.c g.xs :: rdr b g.s :: L) (fun g => m - g.xs.length) (⟨[], s0, none, 0⟩) rfl (⟨Nat.zero_le _, LI.zero⟩) (osl_nil _ _ _ _) (sub_cons (by show some (Value.int .i64 (m : Int)) = some (Value.int .i64 ((m : Int) - (([] : List VotedD).length : Int))); simp) (sub_cons rfl (sub_cons rfl (sub_cons rfl (sub_nil))))) ?_
  rintro ⟨xs, st, A, c⟩ ⟨hl, hli⟩
  dsimp only at hl hli ⊢
  have htot2 := hli.tot
  refine T_seq ?_
  refine T_region ?_
  refine TL_y rfl rfl (Y_move rfl) ?_
  refine TL_y rfl rfl (Y_gt rfl rfl) ?_
  refine TL_y rfl rfl (Y_move rfl) ?_
  refine TL_splitd 14 rfl (fun h14 => ?_) (fun h14 => ?_)
  · refine TL_grun rfl rfl ?_
    refine TL_y rfl rfl (Y_move rfl) ?_
    refine TL_grun rfl rfl ?_
    refine TL_y rfl rfl (Y_nil_check rfl) ?_
    refine TL_grun rfl rfl ?_
    refine TL_y rfl rfl (Y_field_addr rfl) ?_
    refine TL_grun rfl rfl ?_
    refine TL_y rfl rfl (Y_load_rdr rfl) ?_
    refine TL_grun rfl rfl ?_
    refine TL_y rfl rfl (Y_not rfl) ?_
    refine TL_y rfl rfl (Y_pick_t rfl rfl) ?_
    refine TL_nil ?_
    refine T_cond rfl (fun h20 => ?_) (fun h20 => ?_)
    · refine T_skip ?_
      refine thenS_normal ?_
      refine T_seq ?_
      refine T_block ?_
      refine T_region_last ?_
      refine TL_y rfl rfl (Y_move rfl) ?_
      refine TL_y rfl rfl (Y_move rfl) ?_
      refine TL_pullk b ?_
      refine TL_call_fn rfl rfl rfl (rvoted_spec (by omega)) ?_
      rintro _ _ ⟨x, A25, c25, s2, rfl, rfl, hx⟩
      refine TL_build_slice rfl rfl rfl rfl rfl rfl ?_
      intro b26
      refine TL_osl (k := 1) votedR [x] (one_cell (ex_rep (A25, c25) (sep_sl slk) hx.iv)) rfl (by decide) ?_
      refine TL_freeze_osl ?_
      refine TL_name 26 (v' := .slice (some ⟨b26, 0, none⟩) [x].length 1) rfl rfl ?_
      refine TL_append rfl rfl rfl rfl rfl slk (by simp only [List.length_cons, List.length_nil]; omega) ?_
      intro A27 c27
      refine TL_y rfl rfl (Y_assign rfl) ?_
      refine TL_nil ?_
      refine inB_normal ?_
      refine thenS_normal ?_
      refine T_region_last ?_
      refine TL_y rfl rfl (Y_move rfl) ?_
      refine TL_y rfl rfl (Y_sub rfl rfl (by omega)) ?_
      refine TL_name 22 (v' := .int .i64 ((m : Int) - ((xs ++ [x]).length : Int))) rfl (by congr 1; simp; omega) ?_
      refine TL_y rfl rfl (Y_assign rfl) ?_
      refine TL_nil ?_
      refine thenS_normal ?_
      exact ⟨⟨xs ++ [x], s2, A27, c27⟩, ⟨by simp only [List.length_append, List.length_cons, List.length_nil]; omega, hli.next pf_voted (by omega) hx⟩, by simp only [List.length_append, List.length_cons, List.length_nil]; omega, holds_to (sub_cons rfl (sub_cons rfl (sub_cons rfl (sub_cons rfl (sub_nil))))) GivesTo.g⟩
    · refine T_exit ?_
      refine thenS_exit ?_
      refine thenS_exit ?_
      refine inB_hit ?_
      refine thenS_normal ?_
      have hd : xs.length = m ∨ st.bad = true := .inr (by simpa using h20)
      refine T_pullo A c ?_
      refine T_freeze_osl ?_
      refine T_region ?_
      refine TL_y rfl rfl (Y_move rfl) ?_
      refine TL_y rfl rfl (Y_assign rfl) ?_
      refine TL_nil ?_
      refine T_ret ?_
      exact RetG_1 (.inl rfl) rfl (ResV.tmp rfl) GivesTo.g (⟨xs, A, c, st, rfl, rfl, hli.done hmost h0 hl hd⟩)
  · refine TL_gskip rfl rfl rfl rfl ?_
    refine TL_gskip rfl rfl rfl rfl ?_
    refine TL_gskip rfl rfl rfl rfl ?_
    refine TL_gskip rfl rfl rfl rfl ?_
    refine TL_gskip rfl rfl rfl rfl ?_
    refine TL_y rfl rfl (Y_pick_f rfl rfl) ?_
    refine TL_nil ?_
    refine T_cond_false rfl ?_
    refine T_exit ?_
    refine thenS_exit ?_
    refine thenS_exit ?_
    refine inB_hit ?_
    refine thenS_normal ?_
    have hd : xs.length = m ∨ st.bad = true := .inl (by omega)
    refine T_pullo A c ?_
    refine T_freeze_osl ?_
    refine T_region ?_
    refine TL_y rfl rfl (Y_move rfl) ?_
    refine TL_y rfl rfl (Y_assign rfl) ?_
    refine TL_nil ?_
    refine T_ret ?_
    exact RetG_1 (.inl rfl) rfl (ResV.tmp rfl) GivesTo.g (⟨xs, A, c, st, rfl, rfl, hli.done hmost h0 hl hd⟩)
theorem list_event_spec {L : List HP} {b : Nat} {s : RS} (most : Nat) (hmost : most ≤ 4096) (hn : s.n + s.b.length ≤ 140737488355328) : Fn Try.prog 145 #[.pointer (some ⟨b, 0, none⟩), .int .i64 (most : Int), .func (.func 146) #[.pointer (some ⟨b, 0, none⟩)] #[]] (rdr b s :: L) (fun v L' => ∃ xs A c s', v = .slice A xs.length c ∧ L' = sl eventR A c xs :: rdr b s' :: L ∧ RdR (okL rEvent most) (okL eventOk most) (bList bEvent) s xs s') := by
  refine Fn_enter Try.func145 rfl rfl rfl rfl ?_
  refine T_region ?_
  refine TL_y rfl rfl (Y_assign rfl) ?_
  refine TL_nil ?_
  refine T_region ?_
  refine TL_y rfl rfl (Y_assign rfl) ?_
  refine TL_nil ?_
  refine T_seq ?_
  refine T_region ?_
  refine TL_y rfl rfl (Y_move rfl) ?_
  refine TL_y rfl rfl (Y_move rfl) ?_
  refine TL_call rfl rfl (number_spec (most : Int) (by omega) hn) ?_
  rintro _ _ ⟨x0, s0, rfl, rfl, h0⟩
  obtain ⟨m, rfl⟩ : ∃ m : Nat, x0 = (m : Int) := ⟨x0.toNat, by have := h0.iv; unfold rNum at this; omega⟩
  have hm := h0.iv
  unfold rNum at hm
  have htot := h0.tot
  refine TL_y rfl rfl (Y_assign rfl) ?_
  refine TL_nil ?_
  refine T_block ?_
  refine T_loopK (σ := LsS EventD) [0, 2] (fun g => g.xs.length ≤ m ∧ LI rEvent eventOk bEvent m s0 g.xs g.s) (fun g kv => (8, .int .i64 ((m : Int) - (g.xs.length : Int))) :: (7, .slice g.A g.xs.length g.c) :: kv) (fun g => osl eventR 166 g.A g.c g.xs :: rdr b g.s :: L) (fun g => m - g.xs.length) (⟨[], s0, none, 0⟩) rfl (⟨Nat.zero_le _, LI.zero⟩) (osl_nil _ _ _ _) (sub_cons (by show some (Value.int .i64 (m : Int)) = some (Value.int .i64 ((m : Int) - (([] : List EventD).length : Int))); simp) (sub_cons rfl (sub_cons rfl (sub_cons rfl (sub_nil))))) ?_
  rintro ⟨xs, st, A, c⟩ ⟨hl, hli⟩
  dsimp only at hl hli ⊢
  have htot2 := hli.tot
  refine T_seq ?_
  refine T_region ?_
  refine TL_y rfl rfl (Y_move rfl) ?_
  refine TL_y rfl rfl (Y_gt rfl rfl) ?_
  refine TL_y rfl rfl (Y_move rfl) ?_
  refine TL_splitd 14 rfl (fun h14 => ?_) (fun h14 => ?_)
  · refine TL_grun rfl rfl ?_
    refine TL_y rfl rfl (Y_move rfl) ?_
    refine TL_grun rfl rfl ?_
    refine TL_y rfl rfl (Y_nil_check rfl) ?_
    refine TL_grun rfl rfl ?_
    refine TL_y rfl rfl (Y_field_addr rfl) ?_
    refine TL_grun rfl rfl ?_
    refine TL_y rfl rfl (Y_load_rdr rfl) ?_
    refine TL_grun rfl rfl ?_
    refine TL_y rfl rfl (Y_not rfl) ?_
    refine TL_y rfl rfl (Y_pick_t rfl rfl) ?_
    refine TL_nil ?_
    refine T_cond rfl (fun h20 => ?_) (fun h20 => ?_)
    · refine T_skip ?_
      refine thenS_normal ?_
      refine T_seq ?_
      refine T_block ?_
      refine T_region_last ?_
      refine TL_y rfl rfl (Y_move rfl) ?_
      refine TL_y rfl rfl (Y_move rfl) ?_
      refine TL_pullk b ?_
      refine TL_call_fn rfl rfl rfl (revent_spec (by omega)) ?_
      rintro _ _ ⟨x, A25, c25, s2, rfl, rfl, hx⟩
      refine TL_build_slice rfl rfl rfl rfl rfl rfl ?_
      intro b26
      refine TL_osl (k := 1) eventR [x] (one_cell (ex_rep (A25, c25) (sep_sl slk) hx.iv)) rfl (by decide) ?_
      refine TL_freeze_osl ?_
      refine TL_name 26 (v' := .slice (some ⟨b26, 0, none⟩) [x].length 1) rfl rfl ?_
      refine TL_append rfl rfl rfl rfl rfl slk (by simp only [List.length_cons, List.length_nil]; omega) ?_
      intro A27 c27
      refine TL_y rfl rfl (Y_assign rfl) ?_
      refine TL_nil ?_
      refine inB_normal ?_
      refine thenS_normal ?_
      refine T_region_last ?_
      refine TL_y rfl rfl (Y_move rfl) ?_
      refine TL_y rfl rfl (Y_sub rfl rfl (by omega)) ?_
      refine TL_name 22 (v' := .int .i64 ((m : Int) - ((xs ++ [x]).length : Int))) rfl (by congr 1; simp; omega) ?_
      refine TL_y rfl rfl (Y_assign rfl) ?_
      refine TL_nil ?_
      refine thenS_normal ?_
      exact ⟨⟨xs ++ [x], s2, A27, c27⟩, ⟨by simp only [List.length_append, List.length_cons, List.length_nil]; omega, hli.next pf_event (by omega) hx⟩, by simp only [List.length_append, List.length_cons, List.length_nil]; omega, holds_to (sub_cons rfl (sub_cons rfl (sub_cons rfl (sub_cons rfl (sub_nil))))) GivesTo.g⟩
    · refine T_exit ?_
      refine thenS_exit ?_
      refine thenS_exit ?_
      refine inB_hit ?_
      refine thenS_normal ?_
      have hd : xs.length = m ∨ st.bad = true := .inr (by simpa using h20)
      refine T_pullo A c ?_
      refine T_freeze_osl ?_
      refine T_region ?_
      refine TL_y rfl rfl (Y_move rfl) ?_
      refine TL_y rfl rfl (Y_assign rfl) ?_
      refine TL_nil ?_
      refine T_ret ?_
      exact RetG_1 (.inl rfl) rfl (ResV.tmp rfl) GivesTo.g (⟨xs, A, c, st, rfl, rfl, hli.done hmost h0 hl hd⟩)
  · refine TL_gskip rfl rfl rfl rfl ?_
    refine TL_gskip rfl rfl rfl rfl ?_
    refine TL_gskip rfl rfl rfl rfl ?_
    refine TL_gskip rfl rfl rfl rfl ?_
    refine TL_gskip rfl rfl rfl rfl ?_
    refine TL_y rfl rfl (Y_pick_f rfl rfl) ?_
    refine TL_nil ?_
    refine T_cond_false rfl ?_
    refine T_exit ?_
    refine thenS_exit ?_
    refine thenS_exit ?_
    refine inB_hit ?_
    refine thenS_normal ?_
    have hd : xs.length = m ∨ st.bad = true := .inl (by omega)
    refine T_pullo A c ?_
    refine T_freeze_osl ?_
    refine T_region ?_
    refine TL_y rfl rfl (Y_move rfl) ?_
    refine TL_y rfl rfl (Y_assign rfl) ?_
    refine TL_nil ?_
    refine T_ret ?_
    exact RetG_1 (.inl rfl) rfl (ResV.tmp rfl) GivesTo.g (⟨xs, A, c, st, rfl, rfl, hli.done hmost h0 hl hd⟩)
end Go.SL
set_option linter.unusedVariables false
set_option linter.unusedSimpArgs false
namespace Go.SL
open Go Go.Proofs
theorem msgRd {s s0 s1 s2 s3 s4 s5 s6 s7 s8 s9 : RS} {x0 x1 x2 x4 x9 : Int} {x3 : Int × Int} {x5 : EntryD} {x6 : List VotedD} {x7 : List Int} {x8 : List EventD} (h0 : RdR (rNum 255) (rNum 255) bNum s x0 s0) (h1 : RdR (rNum 6) (rNum 6) bNum s0 x1 s1) (h2 : RdR (rNum 6) (rNum 6) bNum s1 x2 s2) (h3 : RdR rBal rBal bBal s2 x3 s3) (h4 : RdR (rNum 2147483647) (rNum 2147483647) bNum s3 x4 s4) (h5 : RdR rEntry entryIv bEntry s4 x5 s5) (h6 : RdR (okL rVoted 4096) (okL votedOk 4096) (bList bVoted) s5 x6 s6) (h7 : RdR rVec (okL (rNum 2147483647) 7) bVec s6 x7 s7) (h8 : RdR (okL rEvent 4096) (okL eventOk 4096) (bList bEvent) s7 x8 s8) (h9 : RdR (rNum 4611686018427387904) (rNum 4611686018427387904) bNum s8 x9 s9) : RdR rMsg MsgOk bMsg s ⟨x0, x1, x2, x3, x4, x5, x6, x7, x8, x9⟩ s9 :=
  have pv : PF (okL rVoted 4096) (bList bVoted) := fun v w r r' hv hw e => pf_list pf_voted hv.1 hw.1 hv.2 hw.2 (by unfold bList at e; rwa [List.append_assoc, List.append_assoc] at e)
  have pe : PF (okL rEvent 4096) (bList bEvent) := fun v w r r' hv hw e => pf_list pf_event hv.1 hw.1 hv.2 hw.2 (by unfold bList at e; rwa [List.append_assoc, List.append_assoc] at e)
  (h0.seq (pf_num (by decide)) (h1.seq (pf_num (by decide)) (h2.seq (pf_num (by decide)) (h3.seq pf_bal (h4.seq (pf_num (by decide)) (h5.seq pf_entry (h6.seq pv (h7.seq pf_vec (h8.seq pe h9))))))))).map (ok2 := rMsg) (iv2 := MsgOk) (b2 := bMsg)
    (fun p => (⟨p.1, p.2.1, p.2.2.1, p.2.2.2.1, p.2.2.2.2.1, p.2.2.2.2.2.1, p.2.2.2.2.2.2.1, p.2.2.2.2.2.2.2.1, p.2.2.2.2.2.2.2.2.1, p.2.2.2.2.2.2.2.2.2⟩ : MsgD)) (fun x => (x.kind, (x.frm, (x.to_, (x.bal, (x.slot, (x.en, (x.voted, (x.seen, (x.events, x.time)))))))))) rfl (fun y => Iff.rfl) (fun y => by simp [bMsg, bList])
    (fun ⟨a, b, c, d, e, f, g, h, i, j⟩ => by
      obtain ⟨d1, d2⟩ := d
      unfold rNum at a b c d1 d2 e j
      dsimp only at a b c d1 d2 e f j
      exact ⟨i64In_mk (by show -9223372036854775808 ≤ x0 ∧ x0 ≤ 9223372036854775807; omega), i64In_mk (by show -9223372036854775808 ≤ x1 ∧ x1 ≤ 9223372036854775807; omega), i64In_mk (by show -9223372036854775808 ≤ x2 ∧ x2 ≤ 9223372036854775807; omega), i64In_mk (by show -9223372036854775808 ≤ x3.1 ∧ x3.1 ≤ 9223372036854775807; omega), i64In_mk (by show -9223372036854775808 ≤ x3.2 ∧ x3.2 ≤ 9223372036854775807; omega), i64In_mk (by show -9223372036854775808 ≤ x4 ∧ x4 ≤ 9223372036854775807; omega), f, i64In_mk (by show -9223372036854775808 ≤ x9 ∧ x9 ≤ 9223372036854775807; omega)⟩)
abbrev mL (m : MsgD) (p : MsgP) (L : List HP) : List HP := sl (intR .i64) p.cut.1 p.cut.2 m.en.order.cut :: sl votedR p.voted.1 p.voted.2 m.voted :: sl (intR .i64) p.seen.1 p.seen.2 m.seen :: sl eventR p.events.1 p.events.2 m.events :: L
theorem rmsg_spec {L : List HP} {b : Nat} {s : RS} (hn : s.n + s.b.length ≤ 140737488355328) : Fn Try.prog 106 #[.pointer (some ⟨b, 0, none⟩)] (rdr b s :: L) (fun v L' => ∃ x p s', v = msgV x p ∧ L' = mL x p (rdr b s' :: L) ∧ RdR rMsg MsgOk bMsg s x s') := by
  refine Fn_enter Try.func106 rfl rfl rfl rfl ?_
  refine T_region ?_
  refine TL_alloc rfl rfl ?_
  intro b2
  refine TL_nil ?_
  refine T_region ?_
  refine TL_y rfl rfl (Y_move rfl) ?_
  refine TL_pullk b ?_
  refine TL_call rfl rfl (number_spec 255 (by decide) hn) ?_
  rintro _ _ ⟨x0, s0, rfl, rfl, h0⟩
  have ht0 := h0.tot
  refine TL_y rfl rfl (Y_build rfl rfl) ?_
  refine TL_alloc rfl rfl ?_
  intro b3
  refine TL_store rfl rfl rfl rfl rfl rfl ?_
  refine TL_nil ?_
  refine T_region ?_
  refine TL_y rfl rfl (Y_move rfl) ?_
  refine TL_pullk b ?_
  refine TL_call rfl rfl (number_spec 6 (by decide) (by omega)) ?_
  rintro _ _ ⟨x1, s1, rfl, rfl, h1⟩
  have ht1 := h1.tot
  refine TL_y rfl rfl (Y_field_addr rfl) ?_
  refine TL_store rfl rfl rfl rfl rfl rfl ?_
  refine TL_nil ?_
  refine T_region ?_
  refine TL_y rfl rfl (Y_move rfl) ?_
  refine TL_pullk b ?_
  refine TL_call rfl rfl (number_spec 6 (by decide) (by omega)) ?_
  rintro _ _ ⟨x2, s2, rfl, rfl, h2⟩
  have ht2 := h2.tot
  refine TL_y rfl rfl (Y_field_addr rfl) ?_
  refine TL_store rfl rfl rfl rfl rfl rfl ?_
  refine TL_nil ?_
  refine T_region ?_
  refine TL_y rfl rfl (Y_move rfl) ?_
  refine TL_pullk b ?_
  refine TL_call rfl rfl (rballot_spec (by omega)) ?_
  rintro _ _ ⟨x3, s3, rfl, rfl, h3⟩
  have ht3 := h3.tot
  refine TL_y rfl rfl (Y_field_addr rfl) ?_
  refine TL_store rfl rfl rfl rfl rfl rfl ?_
  refine TL_nil ?_
  refine T_region ?_
  refine TL_y rfl rfl (Y_move rfl) ?_
  refine TL_pullk b ?_
  refine TL_call rfl rfl (number_spec 2147483647 (by decide) (by omega)) ?_
  rintro _ _ ⟨x4, s4, rfl, rfl, h4⟩
  have ht4 := h4.tot
  refine TL_y rfl rfl (Y_field_addr rfl) ?_
  refine TL_store rfl rfl rfl rfl rfl rfl ?_
  refine TL_nil ?_
  refine T_region ?_
  refine TL_y rfl rfl (Y_move rfl) ?_
  refine TL_pullk b ?_
  refine TL_call rfl rfl (rentry_spec (by omega)) ?_
  rintro _ _ ⟨x5, A5, c5, s5, rfl, rfl, h5⟩
  have ht5 := h5.tot
  refine TL_y rfl rfl (Y_field_addr rfl) ?_
  refine TL_store rfl rfl rfl rfl rfl rfl ?_
  refine TL_nil ?_
  refine T_region ?_
  refine TL_y rfl rfl (Y_move rfl) ?_
  refine TL_y rfl rfl (Y_move rfl) ?_
  refine TL_y rfl rfl (Y_make_func rfl rfl) ?_
  refine TL_pullk b ?_
  refine TL_call rfl rfl (list_voted_spec 4096 (by decide) (by omega)) ?_
  rintro _ _ ⟨x6, A6, c6, s6, rfl, rfl, h6⟩
  have ht6 := h6.tot
  refine TL_y rfl rfl (Y_field_addr rfl) ?_
  refine TL_store rfl rfl rfl rfl rfl rfl ?_
  refine TL_nil ?_
  refine T_region ?_
  refine TL_y rfl rfl (Y_move rfl) ?_
  refine TL_pullk b ?_
  refine TL_call rfl rfl (rvector_spec (by omega)) ?_
  rintro _ _ ⟨x7, A7, c7, s7, rfl, rfl, h7⟩
  have ht7 := h7.tot
  refine TL_y rfl rfl (Y_field_addr rfl) ?_
  refine TL_store rfl rfl rfl rfl rfl rfl ?_
  refine TL_nil ?_
  refine T_region ?_
  refine TL_y rfl rfl (Y_move rfl) ?_
  refine TL_y rfl rfl (Y_move rfl) ?_
  refine TL_y rfl rfl (Y_make_func rfl rfl) ?_
  refine TL_pullk b ?_
  refine TL_call rfl rfl (list_event_spec 4096 (by decide) (by omega)) ?_
  rintro _ _ ⟨x8, A8, c8, s8, rfl, rfl, h8⟩
  have ht8 := h8.tot
  refine TL_y rfl rfl (Y_field_addr rfl) ?_
  refine TL_store rfl rfl rfl rfl rfl rfl ?_
  refine TL_nil ?_
  refine T_region ?_
  refine TL_y rfl rfl (Y_move rfl) ?_
  refine TL_pullk b ?_
  refine TL_call rfl rfl (number_spec 4611686018427387904 (by decide) (by omega)) ?_
  rintro _ _ ⟨x9, s9, rfl, rfl, h9⟩
  refine TL_y rfl rfl (Y_field_addr rfl) ?_
  refine TL_store rfl rfl rfl rfl rfl rfl ?_
  refine TL_nil ?_
  refine T_region ?_
  refine TL_y rfl rfl (Y_load_agg rfl rfl) ?_
  refine TL_store rfl rfl rfl rfl rfl rfl ?_
  refine TL_nil ?_
  refine T_ret ?_
  exact RetG_1 (.inl rfl) rfl (ResV.agg rfl rfl) GivesTo.g (⟨⟨x0, x1, x2, x3, x4, x5, x6, x7, x8, x9⟩, ⟨(A5, c5), (A6, c6), (A7, c7), (A8, c8)⟩, s9, rfl, rfl, msgRd h0 h1 h2 h3 h4 h5 h6 h7 h8 h9⟩)
abbrev msg0 : MsgD := ⟨0, 0, 0, (0, 0), 0, ⟨false, ⟨⟨#[]⟩, ⟨#[]⟩, 0, []⟩⟩, [], [], [], 0⟩
theorem msg0_ok : MsgOk msg0 := ⟨by decide, by decide, by decide, by decide, by decide, by decide, by unfold orderOk'; decide, by decide⟩
def rs0 (bs : List Int) : RS := ⟨bs, 0, false⟩
/-- What reading a whole message comes to. -/
def MsgRes (bs : List Int) (m : MsgD) (e : Int) : Prop := ∃ x s', RdR rMsg MsgOk bMsg (rs0 bs) x s' ∧ ((e = 0 ∧ m = x ∧ s'.bad = false ∧ s'.b = [] ∧ bs.length ≤ 65536) ∨ (e = 10 ∧ (s'.bad = true ∨ s'.b ≠ [] ∨ 65536 < bs.length)))
end Go.SL
set_option linter.unusedVariables false
set_option linter.unusedSimpArgs false
namespace Go.SL
open Go Go.Proofs
abbrev mP0 : MsgP := ⟨(none, 0), (none, 0), (none, 0), (none, 0)⟩
theorem mL_nil {m : MsgD} {L : List HP} (h1 : m.en.order.cut = []) (h2 : m.voted = []) (h3 : m.seen = []) (h4 : m.events = []) : Gives L (mL m mP0 L) := by
  unfold mL
  rw [h1, h2, h3, h4]
  exact (slnil.lay).trans (Gives.trans (slnil.lay) (Gives.trans (slnil.lay) (slnil.lay)))
theorem acOn_bad {L : List HP} {b : Nat} {s : AccD} (m : MsgD) (p : MsgP) (hx : MsgOk m) (hk : MsgK L m p) (hc : cMsg m ≤ 140737488355328) (hm : ¬ mineA s m) : Fn Try.prog 23 #[.pointer (some ⟨b, 0, none⟩), .agg (List.toArray (msgC m p))] (ac b s :: L) (fun v L' => ∃ q, v = .tuple #[.agg (List.toArray (msgC (repA s m) q)), .string (recA s m), .bool (decide (mineA s m))] ∧ L' = mL (repA s m) q (ac b (stA s m) :: L)) := by
  have e1 : repA s m = ⟨0, 0, 0, (0, 0), 0, ⟨false, ⟨⟨#[]⟩, ⟨#[]⟩, 0, []⟩⟩, [], [], [], 0⟩ := by unfold repA; rw [if_neg hm]
  have e2 : recA s m = ⟨#[]⟩ := by unfold recA; rw [if_neg (fun h => hm h.1)]
  have e3 : stA s m = s := by unfold stA; rw [if_neg (fun h => hm h.1)]
  rw [e1, e2, e3, decide_eq_false hm]
  refine Fn_enter Try.func23 rfl rfl rfl rfl ?_
  refine T_region ?_
  refine TL_box rfl rfl rfl ?_
  intro b3
  refine TL_alloc rfl rfl ?_
  intro b4
  refine TL_y rfl rfl (Y_assign rfl) ?_
  refine TL_y rfl rfl (Y_assign rfl) ?_
  refine TL_nil ?_
  refine T_region ?_
  refine TL_y rfl rfl (Y_move rfl) ?_
  refine TL_y rfl rfl (Y_load_agg rfl rfl) ?_
  refine TL_pullk b ?_
  refine TL_call rfl rfl (acJudge_spec m p hx hk.tail.tail hc) ?_
  rintro _ _ ⟨rfl, rfl⟩
  refine TL_name 11 (v' := .agg #[.string (recA s m), .bool (decide (mineA s m)), .bool (decide (mineA s m ∧ nackA s m))]) rfl (rfl) ?_
  refine TL_alloc rfl rfl ?_
  intro b7
  refine TL_store rfl rfl rfl rfl rfl rfl ?_
  refine TL_nil ?_
  refine T_seq ?_
  refine T_region ?_
  refine TL_y rfl rfl (Y_field_addr rfl) ?_
  refine TL_y rfl rfl (Y_load rfl rfl) ?_
  refine TL_name 13 (v' := .bool false) rfl (congrArg Value.bool (decide_eq_false hm)) ?_
  refine TL_y rfl rfl (Y_not_f rfl) ?_
  refine TL_nil ?_
  refine T_cond_true rfl ?_
  refine T_region ?_
  refine TL_y rfl rfl (Y_build rfl rfl) ?_
  refine TL_store rfl rfl rfl rfl rfl rfl ?_
  refine TL_y rfl rfl (Y_assign rfl) ?_
  refine TL_y rfl rfl (Y_assign rfl) ?_
  refine TL_nil ?_
  refine T_ret ?_
  refine thenS_ret ?_
  refine RetQ.gives (mL_nil (m := ⟨0, 0, 0, (0, 0), 0, ⟨false, ⟨⟨#[]⟩, ⟨#[]⟩, 0, []⟩⟩, [], [], [], 0⟩) rfl rfl rfl rfl) ?_
  exact RetG_3 (.inl rfl) rfl (ResV.agg rfl rfl) (ResV.tmp rfl) (ResV.tmp rfl) GivesTo.g (⟨mP0, rfl, rfl⟩)
end Go.SL
set_option linter.unusedVariables false
set_option linter.unusedSimpArgs false
namespace Go.SL
open Go Go.Proofs
theorem mL_voted {m : MsgD} {L : List HP} {A : Option Addr} {c : Nat} (h1 : m.en.order.cut = []) (h3 : m.seen = []) (h4 : m.events = []) (hk : SlK L votedR A c m.voted) : Gives L (mL m ⟨(none, 0), (A, c), (none, 0), (none, 0)⟩ L) := by
  unfold mL
  rw [h1, h3, h4]
  exact (slnil.lay).trans (Gives.trans (slnil.lay) (Gives.trans (SlK.lay hk.tail.tail) (slnil.lay)))
theorem acOn_nack {L : List HP} {b : Nat} {s : AccD} (m : MsgD) (p : MsgP) (hx : MsgOk m) (hk : MsgK L m p) (hc : cMsg m ≤ 140737488355328) (hm : mineA s m) (hn : nackA s m) : Fn Try.prog 23 #[.pointer (some ⟨b, 0, none⟩), .agg (List.toArray (msgC m p))] (ac b s :: L) (fun v L' => ∃ q, v = .tuple #[.agg (List.toArray (msgC (repA s m) q)), .string (recA s m), .bool (decide (mineA s m))] ∧ L' = mL (repA s m) q (ac b (stA s m) :: L)) := by
  have e1 : repA s m = repM s m 5 s.prom [] := by unfold repA; rw [if_pos hm, if_pos hn]
  have e2 : recA s m = ⟨#[]⟩ := by unfold recA; rw [if_neg (fun h => h.2.1 hn)]
  have e3 : stA s m = s := by unfold stA; rw [if_neg (fun h => h.2 hn)]
  rw [e1, e2, e3, decide_eq_true hm]
  refine Fn_enter Try.func23 rfl rfl rfl rfl ?_
  refine T_region ?_
  refine TL_box rfl rfl rfl ?_
  intro b3
  refine TL_alloc rfl rfl ?_
  intro b4
  refine TL_y rfl rfl (Y_assign rfl) ?_
  refine TL_y rfl rfl (Y_assign rfl) ?_
  refine TL_nil ?_
  refine T_region ?_
  refine TL_y rfl rfl (Y_move rfl) ?_
  refine TL_y rfl rfl (Y_load_agg rfl rfl) ?_
  refine TL_pullk b ?_
  refine TL_call rfl rfl (acJudge_spec m p hx hk.tail.tail hc) ?_
  rintro _ _ ⟨rfl, rfl⟩
  refine TL_name 11 (v' := .agg #[.string (recA s m), .bool (decide (mineA s m)), .bool (decide (mineA s m ∧ nackA s m))]) rfl (rfl) ?_
  refine TL_alloc rfl rfl ?_
  intro b7
  refine TL_store rfl rfl rfl rfl rfl rfl ?_
  refine TL_nil ?_
  refine T_seq ?_
  refine T_region ?_
  refine TL_y rfl rfl (Y_field_addr rfl) ?_
  refine TL_y rfl rfl (Y_load rfl rfl) ?_
  refine TL_name 13 (v' := .bool true) rfl (congrArg Value.bool (decide_eq_true hm)) ?_
  refine TL_y rfl rfl (Y_not_t rfl) ?_
  refine TL_nil ?_
  refine T_cond_false rfl ?_
  refine T_skip ?_
  refine thenS_normal ?_
  refine T_pullk b ?_
  refine T_ac fun bt hi => ?_
  refine T_region_draw _ [0, 1, 3, 7, 0, 16, 0, 64, 192, 448, 0, 1024, 0, 8191, 0, 32767] [] [(0, true), (1, true), (2, true), (3, true), (4, true), (5, true), (6, true), (7, true), (8, true), (9, true), (10, true), (11, true), (12, true), (13, true), (14, false), (15, false)] (by kernel_rfl) (by decide +kernel) (Gives.refl _) ?_
  refine TF_y rfl rfl (Y_move rfl) ?_
  refine TF_y rfl rfl (Y_nil_check rfl) ?_
  refine TF_y rfl rfl (Y_field_addr rfl) ?_
  refine TF_y rfl rfl (Y_load rfl rfl) ?_
  refine TF_y rfl rfl (Y_field_addr rfl) ?_
  refine TF_y rfl rfl (Y_load rfl rfl) ?_
  refine TF_y rfl rfl (Y_move rfl) ?_
  refine TF_y rfl rfl (Y_nil_check rfl) ?_
  refine TF_y rfl rfl (Y_field_addr rfl) ?_
  refine TF_y rfl rfl (Y_load_agg rfl rfl) ?_
  refine TF_y rfl rfl (Y_field_addr rfl) ?_
  refine TF_y rfl rfl (Y_load rfl rfl) ?_
  refine TF_y rfl rfl (Y_build rfl rfl) ?_
  refine TF_y rfl rfl (Y_build rfl rfl) ?_
  refine TF_anchor rfl ?_
  refine TL_alloc rfl rfl ?_
  intro b8
  refine TF_end GivesTo.g ?_
  refine TF_anchor rfl ?_
  refine TL_store rfl rfl rfl rfl rfl rfl ?_
  refine TF_end GivesTo.g ?_
  refine TF_nil ?_
  refine T_seq ?_
  refine T_region ?_
  refine TL_y rfl rfl (Y_field_addr rfl) ?_
  refine TL_y rfl rfl (Y_load rfl rfl) ?_
  refine TL_name 31 (v' := .bool true) rfl (congrArg Value.bool (decide_eq_true ⟨hm, hn⟩)) ?_
  refine TL_nil ?_
  refine T_cond_true rfl ?_
  refine T_region ?_
  refine TL_y rfl rfl (Y_load_agg rfl rfl) ?_
  refine TL_store rfl rfl rfl rfl rfl rfl ?_
  refine TL_y rfl rfl (Y_assign rfl) ?_
  refine TL_y rfl rfl (Y_assign rfl) ?_
  refine TL_nil ?_
  refine T_ret ?_
  refine thenS_ret ?_
  refine RetQ.gives (ac_close b s hi) ?_
  refine RetQ.gives (mL_nil (m := repM s m 5 s.prom []) rfl rfl rfl rfl) ?_
  exact RetG_3 (.inl rfl) rfl (ResV.agg rfl rfl) (ResV.tmp rfl) (ResV.tmp rfl) GivesTo.g (⟨mP0, rfl, rfl⟩)
theorem acOn_prep {L : List HP} {b : Nat} {s : AccD} (m : MsgD) (p : MsgP) (hx : MsgOk m) (hk : MsgK L m p) (hc : cMsg m ≤ 140737488355328) (hm : mineA s m) (hn : ¬ nackA s m) (h1 : m.kind = 1) : Fn Try.prog 23 #[.pointer (some ⟨b, 0, none⟩), .agg (List.toArray (msgC m p))] (ac b s :: L) (fun v L' => ∃ q, v = .tuple #[.agg (List.toArray (msgC (repA s m) q)), .string (recA s m), .bool (decide (mineA s m))] ∧ L' = mL (repA s m) q (ac b (stA s m) :: L)) := by
  have e1 : repA s m = repM s m 2 m.bal (aboveV s.V m.slot) := by unfold repA; rw [if_pos hm, if_neg hn, if_pos h1]
  have e3 : stA s m = ⟨s.node, m.bal, s.V⟩ := by unfold stA; rw [if_pos ⟨hm, hn⟩, if_pos h1]
  have hst := fun hi : AI s => hi.step hx
  rw [e3] at hst
  rw [e1, e3, decide_eq_true hm]
  refine Fn_enter Try.func23 rfl rfl rfl rfl ?_
  refine T_region ?_
  refine TL_box rfl rfl rfl ?_
  intro b3
  refine TL_alloc rfl rfl ?_
  intro b4
  refine TL_y rfl rfl (Y_assign rfl) ?_
  refine TL_y rfl rfl (Y_assign rfl) ?_
  refine TL_nil ?_
  refine T_region ?_
  refine TL_y rfl rfl (Y_move rfl) ?_
  refine TL_y rfl rfl (Y_load_agg rfl rfl) ?_
  refine TL_pullk b ?_
  refine TL_call rfl rfl (acJudge_spec m p hx hk.tail.tail hc) ?_
  rintro _ _ ⟨rfl, rfl⟩
  refine TL_name 11 (v' := .agg #[.string (recA s m), .bool (decide (mineA s m)), .bool (decide (mineA s m ∧ nackA s m))]) rfl (rfl) ?_
  refine TL_alloc rfl rfl ?_
  intro b7
  refine TL_store rfl rfl rfl rfl rfl rfl ?_
  refine TL_nil ?_
  refine T_seq ?_
  refine T_region ?_
  refine TL_y rfl rfl (Y_field_addr rfl) ?_
  refine TL_y rfl rfl (Y_load rfl rfl) ?_
  refine TL_name 13 (v' := .bool true) rfl (congrArg Value.bool (decide_eq_true hm)) ?_
  refine TL_y rfl rfl (Y_not_t rfl) ?_
  refine TL_nil ?_
  refine T_cond_false rfl ?_
  refine T_skip ?_
  refine thenS_normal ?_
  refine T_pullk b ?_
  refine T_ac fun bt hi => ?_
  refine T_region_draw _ [0, 1, 3, 7, 0, 16, 0, 64, 192, 448, 0, 1024, 0, 8191, 0, 32767] [] [(0, true), (1, true), (2, true), (3, true), (4, true), (5, true), (6, true), (7, true), (8, true), (9, true), (10, true), (11, true), (12, true), (13, true), (14, false), (15, false)] (by kernel_rfl) (by decide +kernel) (Gives.refl _) ?_
  refine TF_y rfl rfl (Y_move rfl) ?_
  refine TF_y rfl rfl (Y_nil_check rfl) ?_
  refine TF_y rfl rfl (Y_field_addr rfl) ?_
  refine TF_y rfl rfl (Y_load rfl rfl) ?_
  refine TF_y rfl rfl (Y_field_addr rfl) ?_
  refine TF_y rfl rfl (Y_load rfl rfl) ?_
  refine TF_y rfl rfl (Y_move rfl) ?_
  refine TF_y rfl rfl (Y_nil_check rfl) ?_
  refine TF_y rfl rfl (Y_field_addr rfl) ?_
  refine TF_y rfl rfl (Y_load_agg rfl rfl) ?_
  refine TF_y rfl rfl (Y_field_addr rfl) ?_
  refine TF_y rfl rfl (Y_load rfl rfl) ?_
  refine TF_y rfl rfl (Y_build rfl rfl) ?_
  refine TF_y rfl rfl (Y_build rfl rfl) ?_
  refine TF_anchor rfl ?_
  refine TL_alloc rfl rfl ?_
  intro b8
  refine TF_end GivesTo.g ?_
  refine TF_anchor rfl ?_
  refine TL_store rfl rfl rfl rfl rfl rfl ?_
  refine TF_end GivesTo.g ?_
  refine TF_nil ?_
  refine T_seq ?_
  refine T_region ?_
  refine TL_y rfl rfl (Y_field_addr rfl) ?_
  refine TL_y rfl rfl (Y_load rfl rfl) ?_
  refine TL_name 31 (v' := .bool false) rfl (congrArg Value.bool (decide_eq_false fun h => hn h.2)) ?_
  refine TL_nil ?_
  refine T_cond_false rfl ?_
  refine T_skip ?_
  refine thenS_normal ?_
  refine T_region_draw (cells b3 (msgC m p) 44 :: []) [0, 0, 2, 0, 8, 7, 39, 103, 255, 511] [] [(0, true), (1, true), (2, true), (3, true), (4, true), (5, true), (6, true), (7, false), (8, true), (9, false)] (by kernel_rfl) (by decide +kernel) GivesTo.g ?_
  refine TF_y rfl rfl (Y_move rfl) ?_
  refine TF_y rfl rfl (Y_field_addr rfl) ?_
  refine TF_y rfl rfl (Y_load_agg rfl rfl) ?_
  refine TF_y rfl rfl (Y_field_addr rfl) ?_
  refine TF_y rfl rfl (Y_load_agg rfl rfl) ?_
  refine TF_y rfl rfl (Y_nil_check rfl) ?_
  refine TF_y rfl rfl (Y_field_addr rfl) ?_
  refine TF_anchor rfl ?_
  refine TL_store rfl rfl rfl rfl rfl rfl ?_
  refine TF_end GivesTo.g ?_
  refine TF_y rfl rfl (Y_field_addr rfl) ?_
  refine TF_anchor rfl ?_
  refine TL_store rfl rfl rfl rfl rfl rfl ?_
  refine TF_end GivesTo.g ?_
  refine TF_nil ?_
  refine T_seq ?_
  refine T_gives (ac_close (bt := bt) b ⟨s.node, m.bal, s.V⟩ (hst hi)) ?_
  refine T_region ?_
  refine TL_y rfl rfl (Y_field_addr rfl) ?_
  refine TL_y rfl rfl (Y_load rfl rfl) ?_
  refine TL_y rfl rfl (Y_eq rfl rfl) ?_
  refine TL_name 43 (v' := .bool true) rfl (congrArg Value.bool (decide_eq_true h1)) ?_
  refine TL_nil ?_
  refine T_cond_true rfl ?_
  refine T_region ?_
  refine TL_y rfl rfl (Y_move rfl) ?_
  refine TL_y rfl rfl (Y_field_addr rfl) ?_
  refine TL_y rfl rfl (Y_load rfl rfl) ?_
  refine TL_pullk b ?_
  refine TL_call rfl rfl (acAbove_spec (s := ⟨s.node, m.bal, s.V⟩) m.slot) ?_
  rintro _ _ ⟨A47, c47, rfl, rfl⟩
  refine TL_freeze_osl ?_
  refine TL_y rfl rfl (Y_field_addr rfl) ?_
  refine TL_store rfl rfl rfl rfl rfl rfl ?_
  refine TL_y rfl rfl (Y_field_addr rfl) ?_
  refine TL_store rfl rfl rfl rfl rfl rfl ?_
  refine TL_nil ?_
  refine T_region_draw (cells b8 [.int .i64 2, .int .i64 s.node, .int .i64 m.frm, .int .i64 m.bal.1, .int .i64 m.bal.2, .int .i64 m.slot, .bool true, .string ⟨#[]⟩, .string ⟨#[]⟩, .int .i64 0, .slice none 0 0, .slice A47 (aboveV s.V m.slot).length c47, .slice none 0 0, .slice none 0 0, .int .i64 0] 44 :: cells b7 [.string (recA s m), .bool (decide (mineA s m)), .bool (decide (mineA s m ∧ nackA s m))] 115 :: []) [0, 0, 2, 1, 15, 31] [] [(0, true), (1, true), (2, true), (3, false), (4, true), (5, true)] (by kernel_rfl) (by decide +kernel) GivesTo.g ?_
  refine TF_y rfl rfl (Y_load_agg rfl rfl) ?_
  refine TF_y rfl rfl (Y_field_addr rfl) ?_
  refine TF_y rfl rfl (Y_load rfl rfl) ?_
  refine TF_anchor rfl ?_
  refine TL_store rfl rfl rfl rfl rfl rfl ?_
  refine TF_end GivesTo.g ?_
  refine TF_y rfl rfl (Y_assign rfl) ?_
  refine TF_y rfl rfl (Y_assign rfl) ?_
  refine TF_nil ?_
  refine T_ret ?_
  refine thenS_ret ?_
  refine RetQ.gives (mL_voted (m := repM s m 2 m.bal (aboveV s.V m.slot)) rfl rfl rfl (slk (A := A47) (c := c47))) ?_
  exact RetG_3 (.inl rfl) rfl (ResV.agg rfl rfl) (ResV.tmp rfl) (ResV.tmp rfl) GivesTo.g (⟨⟨(none, 0), (A47, c47), (none, 0), (none, 0)⟩, rfl, rfl⟩)
theorem acOn_acc {L : List HP} {b : Nat} {s : AccD} (m : MsgD) (p : MsgP) (hx : MsgOk m) (hk : MsgK L m p) (hc : cMsg m ≤ 140737488355328) (hm : mineA s m) (hn : ¬ nackA s m) (h1 : ¬ m.kind = 1) : Fn Try.prog 23 #[.pointer (some ⟨b, 0, none⟩), .agg (List.toArray (msgC m p))] (ac b s :: L) (fun v L' => ∃ q, v = .tuple #[.agg (List.toArray (msgC (repA s m) q)), .string (recA s m), .bool (decide (mineA s m))] ∧ L' = mL (repA s m) q (ac b (stA s m) :: L)) := by
  have e1 : repA s m = repM s m 4 m.bal [] := by unfold repA; rw [if_pos hm, if_neg hn, if_neg h1]
  have e3 : stA s m = ⟨s.node, m.bal, putV s.V (newV m)⟩ := by unfold stA; rw [if_pos ⟨hm, hn⟩, if_neg h1]
  have hst := fun hi : AI s => hi.step hx
  have hvo : votedOk (newV m) := ⟨hx.slot, hx.b1, hx.b2, hx.en⟩
  rw [e3] at hst
  rw [e1, e3, decide_eq_true hm]
  refine Fn_enter Try.func23 rfl rfl rfl rfl ?_
  refine T_region ?_
  refine TL_box rfl rfl rfl ?_
  intro b3
  refine TL_alloc rfl rfl ?_
  intro b4
  refine TL_y rfl rfl (Y_assign rfl) ?_
  refine TL_y rfl rfl (Y_assign rfl) ?_
  refine TL_nil ?_
  refine T_region ?_
  refine TL_y rfl rfl (Y_move rfl) ?_
  refine TL_y rfl rfl (Y_load_agg rfl rfl) ?_
  refine TL_pullk b ?_
  refine TL_call rfl rfl (acJudge_spec m p hx hk.tail.tail hc) ?_
  rintro _ _ ⟨rfl, rfl⟩
  refine TL_name 11 (v' := .agg #[.string (recA s m), .bool (decide (mineA s m)), .bool (decide (mineA s m ∧ nackA s m))]) rfl (rfl) ?_
  refine TL_alloc rfl rfl ?_
  intro b7
  refine TL_store rfl rfl rfl rfl rfl rfl ?_
  refine TL_nil ?_
  refine T_seq ?_
  refine T_region ?_
  refine TL_y rfl rfl (Y_field_addr rfl) ?_
  refine TL_y rfl rfl (Y_load rfl rfl) ?_
  refine TL_name 13 (v' := .bool true) rfl (congrArg Value.bool (decide_eq_true hm)) ?_
  refine TL_y rfl rfl (Y_not_t rfl) ?_
  refine TL_nil ?_
  refine T_cond_false rfl ?_
  refine T_skip ?_
  refine thenS_normal ?_
  refine T_pullk b ?_
  refine T_ac fun bt hi => ?_
  refine T_region_draw _ [0, 1, 3, 7, 0, 16, 0, 64, 192, 448, 0, 1024, 0, 8191, 0, 32767] [] [(0, true), (1, true), (2, true), (3, true), (4, true), (5, true), (6, true), (7, true), (8, true), (9, true), (10, true), (11, true), (12, true), (13, true), (14, false), (15, false)] (by kernel_rfl) (by decide +kernel) (Gives.refl _) ?_
  refine TF_y rfl rfl (Y_move rfl) ?_
  refine TF_y rfl rfl (Y_nil_check rfl) ?_
  refine TF_y rfl rfl (Y_field_addr rfl) ?_
  refine TF_y rfl rfl (Y_load rfl rfl) ?_
  refine TF_y rfl rfl (Y_field_addr rfl) ?_
  refine TF_y rfl rfl (Y_load rfl rfl) ?_
  refine TF_y rfl rfl (Y_move rfl) ?_
  refine TF_y rfl rfl (Y_nil_check rfl) ?_
  refine TF_y rfl rfl (Y_field_addr rfl) ?_
  refine TF_y rfl rfl (Y_load_agg rfl rfl) ?_
  refine TF_y rfl rfl (Y_field_addr rfl) ?_
  refine TF_y rfl rfl (Y_load rfl rfl) ?_
  refine TF_y rfl rfl (Y_build rfl rfl) ?_
  refine TF_y rfl rfl (Y_build rfl rfl) ?_
  refine TF_anchor rfl ?_
  refine TL_alloc rfl rfl ?_
  intro b8
  refine TF_end GivesTo.g ?_
  refine TF_anchor rfl ?_
  refine TL_store rfl rfl rfl rfl rfl rfl ?_
  refine TF_end GivesTo.g ?_
  refine TF_nil ?_
  refine T_seq ?_
  refine T_region ?_
  refine TL_y rfl rfl (Y_field_addr rfl) ?_
  refine TL_y rfl rfl (Y_load rfl rfl) ?_
  refine TL_name 31 (v' := .bool false) rfl (congrArg Value.bool (decide_eq_false fun h => hn h.2)) ?_
  refine TL_nil ?_
  refine T_cond_false rfl ?_
  refine T_skip ?_
  refine thenS_normal ?_
  refine T_region_draw (cells b3 (msgC m p) 44 :: []) [0, 0, 2, 0, 8, 7, 39, 103, 255, 511] [] [(0, true), (1, true), (2, true), (3, true), (4, true), (5, true), (6, true), (7, false), (8, true), (9, false)] (by kernel_rfl) (by decide +kernel) GivesTo.g ?_
  refine TF_y rfl rfl (Y_move rfl) ?_
  refine TF_y rfl rfl (Y_field_addr rfl) ?_
  refine TF_y rfl rfl (Y_load_agg rfl rfl) ?_
  refine TF_y rfl rfl (Y_field_addr rfl) ?_
  refine TF_y rfl rfl (Y_load_agg rfl rfl) ?_
  refine TF_y rfl rfl (Y_nil_check rfl) ?_
  refine TF_y rfl rfl (Y_field_addr rfl) ?_
  refine TF_anchor rfl ?_
  refine TL_store rfl rfl rfl rfl rfl rfl ?_
  refine TF_end GivesTo.g ?_
  refine TF_y rfl rfl (Y_field_addr rfl) ?_
  refine TF_anchor rfl ?_
  refine TL_store rfl rfl rfl rfl rfl rfl ?_
  refine TF_end GivesTo.g ?_
  refine TF_nil ?_
  refine T_seq ?_
  refine T_region ?_
  refine TL_y rfl rfl (Y_field_addr rfl) ?_
  refine TL_y rfl rfl (Y_load rfl rfl) ?_
  refine TL_y rfl rfl (Y_eq rfl rfl) ?_
  refine TL_name 43 (v' := .bool false) rfl (congrArg Value.bool (decide_eq_false h1)) ?_
  refine TL_nil ?_
  refine T_cond_false rfl ?_
  refine T_skip ?_
  refine thenS_normal ?_
  refine T_region_draw _ [0, 1, 3, 7, 0, 16, 0, 64, 0, 256, 0, 1024, 4032, 8128, 16383] [14] [(0, true), (1, true), (2, true), (3, true), (4, true), (5, true), (6, true), (7, true), (8, true), (9, true), (10, true), (11, true), (12, true), (13, false), (14, false)] (by kernel_rfl) (by decide +kernel) (Gives.refl _) ?_
  refine TF_y rfl rfl (Y_move rfl) ?_
  refine TF_y rfl rfl (Y_nil_check rfl) ?_
  refine TF_y rfl rfl (Y_field_addr rfl) ?_
  refine TF_y rfl rfl (Y_load rfl rfl) ?_
  refine TF_y rfl rfl (Y_field_addr rfl) ?_
  refine TF_y rfl rfl (Y_load rfl rfl) ?_
  refine TF_y rfl rfl (Y_field_addr rfl) ?_
  refine TF_y rfl rfl (Y_load rfl rfl) ?_
  refine TF_y rfl rfl (Y_field_addr rfl) ?_
  refine TF_y rfl rfl (Y_load_agg rfl rfl) ?_
  refine TF_y rfl rfl (Y_field_addr rfl) ?_
  refine TF_y rfl rfl (Y_load_agg rfl rfl) ?_
  refine TF_y rfl rfl (Y_build rfl rfl) ?_
  refine TF_anchor rfl ?_
  refine TL_call rfl rfl (acCopied_spec (newV m) (A := p.cut.1) (c := p.cut.2) (SlN.of_gives GivesTo.g hk.cut.n) hx.en) ?_
  rintro _ _ ⟨q, rfl, rfl⟩
  refine TL_freeze_osl ?_
  refine TF_end GivesTo.g ?_
  refine TF_anchor rfl ?_
  refine TL_update (R := votedR) (k := m.slot) (u := newV m) (cs := votedC (newV m) q) (vmap (putV s.V (newV m))) rfl rfl rfl hx.slot (ex_rep q (sep_sl slk) hvo) (put_perm (V := s.V) (v := newV m)) ?_
  refine TF_end_tail rfl ?_
  refine TF_nil ?_
  refine T_region ?_
  refine TL_y rfl rfl (Y_field_addr rfl) ?_
  refine TL_store rfl rfl rfl rfl rfl rfl ?_
  refine TL_nil ?_
  refine T_region_draw (cells b8 [.int .i64 4, .int .i64 s.node, .int .i64 m.frm, .int .i64 m.bal.1, .int .i64 m.bal.2, .int .i64 m.slot, .bool true, .string ⟨#[]⟩, .string ⟨#[]⟩, .int .i64 0, .slice none 0 0, .slice none 0 0, .slice none 0 0, .slice none 0 0, .int .i64 0] 44 :: cells b7 [.string (recA s m), .bool (decide (mineA s m)), .bool (decide (mineA s m ∧ nackA s m))] 115 :: []) [0, 0, 2, 1, 15, 31] [] [(0, true), (1, true), (2, true), (3, false), (4, true), (5, true)] (by kernel_rfl) (by decide +kernel) GivesTo.g ?_
  refine TF_y rfl rfl (Y_load_agg rfl rfl) ?_
  refine TF_y rfl rfl (Y_field_addr rfl) ?_
  refine TF_y rfl rfl (Y_load rfl rfl) ?_
  refine TF_anchor rfl ?_
  refine TL_store rfl rfl rfl rfl rfl rfl ?_
  refine TF_end GivesTo.g ?_
  refine TF_y rfl rfl (Y_assign rfl) ?_
  refine TF_y rfl rfl (Y_assign rfl) ?_
  refine TF_nil ?_
  refine T_ret ?_
  refine RetQ.gives (ac_close (bt := bt) b ⟨s.node, m.bal, putV s.V (newV m)⟩ (hst hi)) ?_
  refine RetQ.gives (mL_nil (m := repM s m 4 m.bal []) rfl rfl rfl rfl) ?_
  exact RetG_3 (.inl rfl) rfl (ResV.agg rfl rfl) (ResV.tmp rfl) (ResV.tmp rfl) GivesTo.g (⟨mP0, rfl, rfl⟩)
theorem acOn_spec {L : List HP} {b : Nat} {s : AccD} (m : MsgD) (p : MsgP) (hx : MsgOk m) (hk : MsgK L m p) (hc : cMsg m ≤ 140737488355328) : Fn Try.prog 23 #[.pointer (some ⟨b, 0, none⟩), .agg (List.toArray (msgC m p))] (ac b s :: L) (fun v L' => ∃ q, v = .tuple #[.agg (List.toArray (msgC (repA s m) q)), .string (recA s m), .bool (decide (mineA s m))] ∧ L' = mL (repA s m) q (ac b (stA s m) :: L)) := by
  by_cases hm : mineA s m
  · by_cases hn : nackA s m
    · exact acOn_nack m p hx hk hc hm hn
    · by_cases h1 : m.kind = 1
      · exact acOn_prep m p hx hk hc hm hn h1
      · exact acOn_acc m p hx hk hc hm hn h1
  · exact acOn_bad m p hx hk hc hm
end Go.SL
set_option linter.unusedVariables false
set_option linter.unusedSimpArgs false
namespace Go.SL
open Go Go.Proofs
end Go.SL
set_option linter.unusedVariables false
set_option linter.unusedSimpArgs false
namespace Go.SL
open Go Go.Proofs
def HeadM (m : MsgD) : Prop := rNum 255 m.kind ∧ rNum 6 m.frm ∧ rNum 6 m.to_ ∧ rBal m.bal ∧ rNum 2147483647 m.slot ∧ rEntry m.en ∧ m.voted.length ≤ 4096 ∧ rVec m.seen ∧ m.events.length ≤ 4096 ∧ rNum 4611686018427387904 m.time
instance (m : MsgD) : Decidable (HeadM m) := by unfold HeadM; exact inferInstance
end Go.SL
set_option linter.unusedVariables false
namespace Go.SL
open Go Go.Proofs
theorem cSeal_μ (x : OrderD) : cSeal x ≤ 60 * μSeal x := by unfold cSeal μSeal; omega
theorem cVoteds_μ : ∀ l : List VotedD, cVoteds l ≤ 120 * (l.map μVoted).sum
  | [] => by simp [cVoteds]
  | v :: l => by
    have h1 := cVoteds_μ l
    have h2 := cSeal_μ v.en.order
    simp only [cVoteds, List.map_cons, List.sum_cons, cVoted, μVoted, μEntry] at h1 ⊢; omega
theorem cEvents_μ : ∀ l : List EventD, cEvents l ≤ 120 * (l.map μEvent).sum
  | [] => by simp [cEvents]
  | v :: l => by
    have h1 := cEvents_μ l
    simp only [cEvents, List.map_cons, List.sum_cons, cEvent, μEvent] at h1 ⊢; omega
theorem cMsg_small {m : MsgD} {n : Nat} (h : μMsg m ≤ n) (hn : n ≤ 1048576) : cMsg m ≤ 140737488355328 := by
  have h1 := cVoteds_μ m.voted
  have h2 := cEvents_μ m.events
  have h3 := cSeal_μ m.en.order
  unfold μMsg μEntry at h; unfold cMsg; omega
end Go.SL
set_option linter.unusedVariables false
set_option linter.unusedSimpArgs false
namespace Go.SL
open Go Go.Proofs
def PartRes {α : Type} (ok iv : α → Prop) (b : α → List Int) (bs : List Int) (e : Int) : Prop := ∃ x s', RdR ok iv b (rs0 bs) x s' ∧ ((e = 0 ∧ s'.bad = false) ∨ (e = 10 ∧ s'.bad = true))
theorem bNum_pos (n : Int) : 0 < (bNum n).length := grp_pos _
theorem bMsg_pos (m : MsgD) : 0 < (bMsg m).length := by have := bNum_pos m.kind; unfold bMsg; simp only [List.length_append]; omega
theorem out_len {s : WS} : (outB s).length ≤ 65536 := by
  unfold outB; split
  · simp
  · rename_i h; simp at h; omega
end Go.SL
set_option linter.unusedVariables false
set_option linter.unusedSimpArgs false
namespace Go.SL
open Go Go.Proofs
theorem rec_none {s : AccD} {m : MsgD} : recA s m = ⟨#[]⟩ ↔ ¬ (mineA s m ∧ ¬ nackA s m ∧ chgA s m) := by
  unfold recA
  by_cases h : mineA s m ∧ ¬ nackA s m ∧ chgA s m
  · rw [if_pos h]
    refine ⟨fun e => ?_, fun e => absurd h e⟩
    have h1 := congrArg ByteArray.size e
    rw [strOfNums_size, (out_msg h.1.1).2] at h1
    have h2 := bMsg_pos m
    have h3 : ByteArray.size ⟨#[]⟩ = 0 := rfl
    omega
  · rw [if_neg h]
    exact ⟨fun _ => h, fun _ => rfl⟩
/-- What a message does, in three ways. -/
theorem acCases (s : AccD) (m : MsgD) : (¬ mineA s m ∧ recA s m = ⟨#[]⟩ ∧ stA s m = s) ∨ (mineA s m ∧ cmpB m.bal s.prom < 0 + 1 ∧ nackA s m ∧ recA s m = ⟨#[]⟩ ∧ stA s m = s ∧ repA s m = repM s m 5 s.prom []) ∨ (mineA s m ∧ ¬ nackA s m ∧ ¬ cmpB m.bal s.prom < 0 ∧ (stA s m).prom = m.bal ∧ (repA s m).kind ≠ 5) ∨ (mineA s m ∧ ¬ cmpB m.bal s.prom < 0 + 1 ∧ nackA s m ∧ recA s m = ⟨#[]⟩ ∧ stA s m = s ∧ repA s m = repM s m 5 s.prom []) := by
  by_cases hm : mineA s m
  · by_cases hn : nackA s m
    · have e2 : recA s m = ⟨#[]⟩ := by unfold recA; rw [if_neg (fun h => h.2.1 hn)]
      have e3 : stA s m = s := by unfold stA; rw [if_neg (fun h => h.2 hn)]
      have e4 : repA s m = repM s m 5 s.prom [] := by unfold repA; rw [if_pos hm, if_pos hn]
      by_cases hc : cmpB m.bal s.prom < 0 + 1
      · exact .inr (.inl ⟨hm, hc, hn, e2, e3, e4⟩)
      · exact .inr (.inr (.inr ⟨hm, hc, hn, e2, e3, e4⟩))
    · refine .inr (.inr (.inl ⟨hm, hn, fun h => hn (.inl h), ?_, ?_⟩))
      · unfold stA; rw [if_pos ⟨hm, hn⟩]
      · unfold repA; rw [if_pos hm, if_neg hn]; split <;> simp [repM]
  · exact .inl ⟨hm, by unfold recA; rw [if_neg (fun h => hm h.1)], by unfold stA; rw [if_neg (fun h => hm h.1)]⟩
theorem acWays (s : AccD) (m : MsgD) : (¬ mineA s m ∧ recA s m = ⟨#[]⟩ ∧ stA s m = s) ∨ (mineA s m ∧ nackA s m ∧ recA s m = ⟨#[]⟩ ∧ stA s m = s ∧ repA s m = repM s m 5 s.prom []) ∨ (mineA s m ∧ ¬ nackA s m ∧ ¬ cmpB m.bal s.prom < 0 ∧ (stA s m).prom = m.bal ∧ (repA s m).kind ≠ 5) := by
  rcases acCases s m with h | ⟨h1, _, h⟩ | h | ⟨h1, _, h⟩
  · exact .inl h
  · exact .inr (.inl ⟨h1, h⟩)
  · exact .inr (.inr h)
  · exact .inr (.inl ⟨h1, h⟩)
def UnderP (s : AccD) : Prop := ∀ v ∈ s.V, ¬ 0 < cmpB v.bal s.prom
theorem cmpB_self (a : Int × Int) : cmpB a a = 0 := cmpB_zero.2 rfl
theorem cmpB_le {a b c : Int × Int} (h : ¬ 0 < cmpB a b) (k : ¬ cmpB c b < 0) : ¬ 0 < cmpB a c := by
  have e1 : ¬ cmpB b a < 0 := by rw [cmpB_neg b a]; omega
  have e2 : ¬ cmpB c a < 0 := by rw [cmpB_lt] at *; omega
  rw [cmpB_neg a c]; omega
theorem UnderP.step {s : AccD} (h : UnderP s) (m : MsgD) : UnderP (stA s m) := by
  unfold stA
  split
  · rename_i hc
    have hle : ¬ cmpB m.bal s.prom < 0 := fun e => hc.2 (.inl e)
    have hold : ∀ v ∈ s.V, ¬ 0 < cmpB v.bal m.bal := fun v hv => cmpB_le (h v hv) hle
    by_cases hk : m.kind = 1
    · rw [if_pos hk]; exact hold
    · rw [if_neg hk]
      intro v hv
      rcases put_mem.1 hv with rfl | ⟨hv, _⟩
      · show ¬ 0 < cmpB m.bal m.bal
        rw [cmpB_self]; omega
      · exact hold v hv
  · exact h
theorem UnderP.new (n : Int) : UnderP (acNew n) := fun v hv => by cases hv
theorem msgK_nil {m : MsgD} {L : List HP} (h1 : m.en.order.cut = []) (h2 : m.voted = []) (h3 : m.seen = []) (h4 : m.events = []) : MsgK L m mP0 := ⟨by rw [h1]; exact slnil, by rw [h2]; exact slnil, by rw [h3]; exact slnil, by rw [h4]; exact slnil⟩
abbrev lm1 : MsgD := ⟨1, 0, 1, (2, 0), 0, noopE, [], [], [], 0⟩
abbrev lm2 : MsgD := ⟨3, 2, 1, (1, 2), 0, noopE, [], [], [], 0⟩
abbrev lm3 : MsgD := ⟨3, 0, 1, (2, 0), 3, noopE, [], [], [], 0⟩
abbrev ls1 : AccD := ⟨1, (2, 0), []⟩
theorem noopOk : orderOk' noopE.order := ⟨by decide, by decide, by decide, by decide⟩
theorem smallOk {m : MsgD} (h : 0 ≤ m.kind ∧ m.kind ≤ 255 ∧ 0 ≤ m.frm ∧ m.frm ≤ 255 ∧ 0 ≤ m.to_ ∧ m.to_ ≤ 255 ∧ 0 ≤ m.bal.1 ∧ m.bal.1 ≤ 2147483648 ∧ 0 ≤ m.bal.2 ∧ m.bal.2 ≤ 255 ∧ 0 ≤ m.slot ∧ m.slot ≤ 2147483648 ∧ 0 ≤ m.time ∧ m.time ≤ 255) (he : orderOk' m.en.order) : MsgOk m := ⟨i64In_mk (by omega), i64In_mk (by omega), i64In_mk (by omega), i64In_mk (by omega), i64In_mk (by omega), i64In_mk (by omega), he, i64In_mk (by omega)⟩
theorem lm1_ok : MsgOk lm1 := smallOk (by decide) noopOk
theorem lm2_ok : MsgOk lm2 := smallOk (by decide) noopOk
theorem lm3_ok : MsgOk lm3 := smallOk (by decide) noopOk
theorem lm1_m : mineA (acNew 1) lm1 := by unfold mineA; decide +kernel
theorem lm2_m : mineA ls1 lm2 := by unfold mineA; decide +kernel
theorem lm3_m : mineA ls1 lm3 := by unfold mineA; decide +kernel
theorem lm1_n : ¬ nackA (acNew 1) lm1 := by unfold nackA; decide +kernel
theorem lm2_n : nackA ls1 lm2 := .inl (by decide +kernel)
theorem lm3_n : ¬ nackA ls1 lm3 := by unfold nackA; decide +kernel
theorem lm1_r : recA (acNew 1) lm1 ≠ ⟨#[]⟩ := fun h => rec_none.1 h ⟨lm1_m, lm1_n, .inl (by decide)⟩
theorem lm2_r : recA ls1 lm2 = ⟨#[]⟩ := rec_none.2 fun h => h.2.1 lm2_n
theorem lm3_r : recA ls1 lm3 ≠ ⟨#[]⟩ := fun h => rec_none.1 h ⟨lm3_m, lm3_n, .inr ⟨rfl, by show (none : Option VotedD) ≠ _; simp⟩⟩
theorem lm1_s : stA (acNew 1) lm1 = ls1 := by unfold stA; rw [if_pos ⟨lm1_m, lm1_n⟩]; rfl
theorem lm2_s : stA ls1 lm2 = ls1 := by unfold stA; rw [if_neg (fun h => h.2 lm2_n)]
theorem lm3_s : stA ls1 lm3 = ⟨1, (2, 0), [newV lm3]⟩ := by unfold stA; rw [if_pos ⟨lm3_m, lm3_n⟩]; rfl
theorem lm1_p : repA (acNew 1) lm1 = repM (acNew 1) lm1 2 (2, 0) [] := by unfold repA; rw [if_pos lm1_m, if_neg lm1_n]; rfl
theorem lm2_p : repA ls1 lm2 = repM ls1 lm2 5 (2, 0) [] := by unfold repA; rw [if_pos lm2_m, if_pos lm2_n]
theorem lm3_p : repA ls1 lm3 = repM ls1 lm3 4 (2, 0) [] := by unfold repA; rw [if_pos lm3_m, if_neg lm3_n]; rfl
theorem lives16_spec (L : List HP) : Fn Try.prog 21 #[] L (fun v L' => v = .bool true ∧ L' = L) := by
  refine Fn_enter Try.func21 rfl rfl rfl rfl ?_
  refine T_region ?_
  refine TL_y rfl rfl (Y_assign rfl) ?_
  refine TL_nil ?_
  refine T_region ?_
  refine TL_call rfl rfl (acNew_ok 1 (by decide) _) ?_
  rintro _ _ ⟨b14, rfl, rfl⟩
  refine TL_y rfl rfl (Y_move rfl) ?_
  refine TL_y rfl rfl (Y_extract rfl rfl) ?_
  refine TL_y rfl rfl (Y_extract rfl rfl) ?_
  refine TL_y rfl rfl (Y_assign rfl) ?_
  refine TL_y rfl rfl (Y_assign rfl) ?_
  refine TL_nil ?_
  refine T_seq ?_
  refine T_region ?_
  refine TL_y rfl rfl (Y_move rfl) ?_
  refine TL_y rfl rfl (Y_ne rfl rfl) ?_
  refine TL_name 18 (v' := .bool false) rfl (congrArg Value.bool (decide_eq_false (by decide))) ?_
  refine TL_y rfl rfl (Y_move rfl) ?_
  refine TL_grun rfl rfl ?_
  refine TL_y rfl rfl (Y_move rfl) ?_
  refine TL_grun rfl rfl ?_
  refine TL_y rfl rfl (Y_equal rfl rfl (EqIs.ptr_nil)) ?_
  refine TL_name 21 (v' := .bool false) rfl (by simp) ?_
  refine TL_y rfl rfl (Y_pick_f rfl rfl) ?_
  refine TL_nil ?_
  refine T_cond_false rfl ?_
  refine T_skip ?_
  refine thenS_normal ?_
  refine T_region ?_
  refine TL_y rfl rfl (Y_build rfl rfl) ?_
  refine TL_alloc rfl rfl ?_
  intro b3
  refine TL_store rfl rfl rfl rfl rfl rfl ?_
  refine TL_nil ?_
  refine T_region ?_
  refine TL_y rfl rfl (Y_move rfl) ?_
  refine TL_y rfl rfl (Y_build rfl rfl) ?_
  refine TL_y rfl rfl (Y_load_agg rfl rfl) ?_
  refine TL_y rfl rfl (Y_build rfl rfl) ?_
  refine TL_pullk b14 ?_
  refine TL_call rfl rfl (acOn_spec (s := acNew 1) lm1 mP0 lm1_ok (msgK_nil rfl rfl rfl rfl) (by decide +kernel)) ?_
  rintro _ _ ⟨q29, rfl, rfl⟩
  rw [lm1_p, lm1_s, decide_eq_true lm1_m]
  refine TL_y rfl rfl (Y_move rfl) ?_
  refine TL_y rfl rfl (Y_extract rfl rfl) ?_
  refine TL_y rfl rfl (Y_extract rfl rfl) ?_
  refine TL_y rfl rfl (Y_extract rfl rfl) ?_
  refine TL_alloc rfl rfl ?_
  intro b4
  refine TL_store rfl rfl rfl rfl rfl rfl ?_
  refine TL_y rfl rfl (Y_assign rfl) ?_
  refine TL_y rfl rfl (Y_assign rfl) ?_
  refine TL_nil ?_
  refine T_region ?_
  refine TL_y rfl rfl (Y_move rfl) ?_
  refine TL_y rfl rfl (Y_build rfl rfl) ?_
  refine TL_y rfl rfl (Y_load_agg rfl rfl) ?_
  refine TL_y rfl rfl (Y_build rfl rfl) ?_
  refine TL_pullk b14 ?_
  refine TL_call rfl rfl (acOn_spec (s := ls1) lm2 mP0 lm2_ok (msgK_nil rfl rfl rfl rfl) (by decide +kernel)) ?_
  rintro _ _ ⟨q38, rfl, rfl⟩
  rw [lm2_p, lm2_s, lm2_r, decide_eq_true lm2_m]
  refine TL_y rfl rfl (Y_move rfl) ?_
  refine TL_y rfl rfl (Y_extract rfl rfl) ?_
  refine TL_y rfl rfl (Y_extract rfl rfl) ?_
  refine TL_y rfl rfl (Y_extract rfl rfl) ?_
  refine TL_alloc rfl rfl ?_
  intro b7
  refine TL_store rfl rfl rfl rfl rfl rfl ?_
  refine TL_y rfl rfl (Y_assign rfl) ?_
  refine TL_y rfl rfl (Y_assign rfl) ?_
  refine TL_nil ?_
  refine T_region ?_
  refine TL_y rfl rfl (Y_move rfl) ?_
  refine TL_y rfl rfl (Y_build rfl rfl) ?_
  refine TL_y rfl rfl (Y_load_agg rfl rfl) ?_
  refine TL_y rfl rfl (Y_build rfl rfl) ?_
  refine TL_pullk b14 ?_
  refine TL_call rfl rfl (acOn_spec (s := ls1) lm3 mP0 lm3_ok (msgK_nil rfl rfl rfl rfl) (by decide +kernel)) ?_
  rintro _ _ ⟨q47, rfl, rfl⟩
  rw [lm3_p, lm3_s, decide_eq_true lm3_m]
  refine TL_y rfl rfl (Y_move rfl) ?_
  refine TL_y rfl rfl (Y_extract rfl rfl) ?_
  refine TL_y rfl rfl (Y_extract rfl rfl) ?_
  refine TL_y rfl rfl (Y_extract rfl rfl) ?_
  refine TL_alloc rfl rfl ?_
  intro b10
  refine TL_store rfl rfl rfl rfl rfl rfl ?_
  refine TL_y rfl rfl (Y_assign rfl) ?_
  refine TL_y rfl rfl (Y_assign rfl) ?_
  refine TL_nil ?_
  refine T_region ?_
  refine TL_y rfl rfl (Y_move rfl) ?_
  refine TL_name 51 (v' := .bool true) rfl (rfl) ?_
  refine TL_y rfl rfl (Y_move rfl) ?_
  refine TL_grun rfl rfl ?_
  refine TL_y rfl rfl (Y_move rfl) ?_
  refine TL_name 53 (v' := .bool true) rfl (rfl) ?_
  refine TL_y rfl rfl (Y_pick_t rfl rfl) ?_
  refine TL_y rfl rfl (Y_move rfl) ?_
  refine TL_grun rfl rfl ?_
  refine TL_y rfl rfl (Y_move rfl) ?_
  refine TL_name 56 (v' := .bool true) rfl (rfl) ?_
  refine TL_y rfl rfl (Y_pick_t rfl rfl) ?_
  refine TL_y rfl rfl (Y_move rfl) ?_
  refine TL_grun rfl rfl ?_
  refine TL_y rfl rfl (Y_field_addr rfl) ?_
  refine TL_grun rfl rfl ?_
  refine TL_y rfl rfl (Y_load rfl rfl) ?_
  refine TL_grun rfl rfl ?_
  refine TL_y rfl rfl (Y_eq rfl rfl) ?_
  refine TL_name 61 (v' := .bool true) rfl (congrArg Value.bool (decide_eq_true rfl)) ?_
  refine TL_y rfl rfl (Y_pick_t rfl rfl) ?_
  refine TL_y rfl rfl (Y_move rfl) ?_
  refine TL_grun rfl rfl ?_
  refine TL_y rfl rfl (Y_move rfl) ?_
  refine TL_grun rfl rfl ?_
  refine TL_y rfl rfl (Y_str_ne rfl rfl) ?_
  refine TL_name 65 (v' := .bool true) rfl (congrArg Value.bool (decide_eq_true lm1_r)) ?_
  refine TL_y rfl rfl (Y_pick_t rfl rfl) ?_
  refine TL_y rfl rfl (Y_move rfl) ?_
  refine TL_grun rfl rfl ?_
  refine TL_y rfl rfl (Y_field_addr rfl) ?_
  refine TL_grun rfl rfl ?_
  refine TL_y rfl rfl (Y_load rfl rfl) ?_
  refine TL_grun rfl rfl ?_
  refine TL_y rfl rfl (Y_eq rfl rfl) ?_
  refine TL_name 70 (v' := .bool true) rfl (congrArg Value.bool (decide_eq_true rfl)) ?_
  refine TL_y rfl rfl (Y_pick_t rfl rfl) ?_
  refine TL_y rfl rfl (Y_move rfl) ?_
  refine TL_grun rfl rfl ?_
  refine TL_y rfl rfl (Y_move rfl) ?_
  refine TL_grun rfl rfl ?_
  refine TL_y rfl rfl (Y_str_eq rfl rfl) ?_
  refine TL_name 74 (v' := .bool true) rfl (congrArg Value.bool (decide_eq_true rfl)) ?_
  refine TL_y rfl rfl (Y_pick_t rfl rfl) ?_
  refine TL_y rfl rfl (Y_move rfl) ?_
  refine TL_grun rfl rfl ?_
  refine TL_y rfl rfl (Y_field_addr rfl) ?_
  refine TL_grun rfl rfl ?_
  refine TL_y rfl rfl (Y_field_addr rfl) ?_
  refine TL_grun rfl rfl ?_
  refine TL_y rfl rfl (Y_load rfl rfl) ?_
  refine TL_grun rfl rfl ?_
  refine TL_y rfl rfl (Y_eq rfl rfl) ?_
  refine TL_name 80 (v' := .bool true) rfl (congrArg Value.bool (decide_eq_true rfl)) ?_
  refine TL_y rfl rfl (Y_pick_t rfl rfl) ?_
  refine TL_y rfl rfl (Y_move rfl) ?_
  refine TL_grun rfl rfl ?_
  refine TL_y rfl rfl (Y_field_addr rfl) ?_
  refine TL_grun rfl rfl ?_
  refine TL_y rfl rfl (Y_load rfl rfl) ?_
  refine TL_grun rfl rfl ?_
  refine TL_y rfl rfl (Y_eq rfl rfl) ?_
  refine TL_name 85 (v' := .bool true) rfl (congrArg Value.bool (decide_eq_true rfl)) ?_
  refine TL_y rfl rfl (Y_pick_t rfl rfl) ?_
  refine TL_y rfl rfl (Y_move rfl) ?_
  refine TL_grun rfl rfl ?_
  refine TL_y rfl rfl (Y_move rfl) ?_
  refine TL_grun rfl rfl ?_
  refine TL_y rfl rfl (Y_str_ne rfl rfl) ?_
  refine TL_name 89 (v' := .bool true) rfl (congrArg Value.bool (decide_eq_true lm3_r)) ?_
  refine TL_y rfl rfl (Y_pick_t rfl rfl) ?_
  refine TL_y rfl rfl (Y_move rfl) ?_
  refine TL_grun rfl rfl ?_
  refine TL_y rfl rfl (Y_move rfl) ?_
  refine TL_grun rfl rfl ?_
  refine TL_pullk b14 ?_
  refine TL_call rfl rfl (acVotes_spec (s := ⟨1, (2, 0), [newV lm3]⟩)) ?_
  rintro _ _ ⟨A93, c93, rfl, rfl⟩
  refine TL_grun rfl rfl ?_
  refine TL_y rfl rfl (Y_len rfl) ?_
  refine TL_grun rfl rfl ?_
  refine TL_y rfl rfl (Y_eq rfl rfl) ?_
  refine TL_name 95 (v' := .bool true) rfl (congrArg Value.bool (decide_eq_true rfl)) ?_
  refine TL_y rfl rfl (Y_pick_t rfl rfl) ?_
  refine TL_y rfl rfl (Y_assign rfl) ?_
  refine TL_nil ?_
  refine T_ret ?_
  exact RetG_1 (.inl rfl) rfl (ResV.tmp rfl) GivesTo.g (⟨rfl, rfl⟩)
end Go.SL
set_option linter.unusedVariables false
set_option linter.unusedSimpArgs false
namespace Go.SL
open Go Go.Proofs
instance : IsEx msgR MsgP 15 msgC (fun m p => [sl (intR .i64) p.cut.1 p.cut.2 m.en.order.cut, sl votedR p.voted.1 p.voted.2 m.voted, sl (intR .i64) p.seen.1 p.seen.2 m.seen, sl eventR p.events.1 p.events.2 m.events]) MsgOk := ⟨_, _, rfl⟩
structure KpSt where
  i : Nat
  s : AccD
theorem pair_ne {a b : Int × Int} (h : a = b) : (!decide (a = b)) = false := by simp [h]
theorem inc_at {V : List VotedD} (h : IncV V) {i j : Nat} {u v : VotedD} (hu : V[i]? = some u) (hv : V[j]? = some v) (hij : i < j) : u.slot < v.slot := by
  have h1 := List.pairwise_iff_getElem.1 h i j (List.getElem?_eq_some_iff.1 hu).1 (List.getElem?_eq_some_iff.1 hv).1 hij
  rwa [(List.getElem?_eq_some_iff.1 hu).2, (List.getElem?_eq_some_iff.1 hv).2] at h1
theorem TL_acI {r : Option Nat} {n : Nat} {P : Program} {ops : Array Oper} {rest : List Oper} {K : St → Prop} {D : List Deferred} {E : Env} {L : List HP} {b : Nat} {s : AccD} (h : AI s → TL r n P ops rest ⟨D, E, ac b s :: L⟩ K) : TL r n P ops rest ⟨D, E, ac b s :: L⟩ K := fun W a w hh => by
  obtain ⟨bt, hi, hs⟩ := ac_open hh.2
  exact h hi W a w hh
theorem acceptorKeeps_ok {L : List HP} {A : Option Addr} {c : Nat} {l : List MsgD} (node : Int) (hnode : 0 ≤ node ∧ node ≤ 6) (hk : SlK L msgR A c l) (hb : ∀ m ∈ l, cMsg m ≤ 140737488355328) (hl : l.length ≤ 281474976710656) : Fn Try.prog 4 #[.int .i64 node, .slice A l.length c] L (fun v L' => v = .bool true ∧ L' = L) := by
  refine Fn_enter Try.func4 rfl rfl rfl rfl ?_
  refine T_gives hk.lay ?_
  refine T_region ?_
  refine TL_y rfl rfl (Y_assign rfl) ?_
  refine TL_nil ?_
  refine T_region ?_
  refine TL_y rfl rfl (Y_move rfl) ?_
  refine TL_call rfl rfl (acNew_ok node hnode _) ?_
  rintro _ _ ⟨b17, rfl, rfl⟩
  refine TL_y rfl rfl (Y_move rfl) ?_
  refine TL_y rfl rfl (Y_extract rfl rfl) ?_
  refine TL_y rfl rfl (Y_extract rfl rfl) ?_
  refine TL_y rfl rfl (Y_assign rfl) ?_
  refine TL_y rfl rfl (Y_assign rfl) ?_
  refine TL_nil ?_
  refine T_seq ?_
  refine T_region ?_
  refine TL_call rfl rfl (lives16_spec _) ?_
  rintro _ _ ⟨rfl, rfl⟩
  refine TL_name 20 (v' := .bool true) rfl (rfl) ?_
  refine TL_y rfl rfl (Y_not_t rfl) ?_
  refine TL_nil ?_
  refine T_cond_false rfl ?_
  refine T_skip ?_
  refine thenS_normal ?_
  refine T_seq ?_
  refine T_region ?_
  refine TL_y rfl rfl (Y_move rfl) ?_
  refine TL_y rfl rfl (Y_ne rfl rfl) ?_
  refine TL_name 23 (v' := .bool false) rfl (congrArg Value.bool (decide_eq_false (by decide))) ?_
  refine TL_nil ?_
  refine T_cond_false rfl ?_
  refine T_skip ?_
  refine thenS_normal ?_
  refine T_seq ?_
  refine T_region ?_
  refine TL_y rfl rfl (Y_assign rfl) ?_
  refine TL_nil ?_
  refine T_block ?_
  refine T_loopK (σ := KpSt) [1, 5] (fun g => g.i ≤ l.length ∧ UnderP g.s) (fun g kv => (7, .int .i64 (g.i : Int)) :: kv) (fun g => ac b17 g.s :: sl msgR A c l :: L) (fun g => l.length - g.i) (⟨0, acNew node⟩) rfl (⟨Nat.zero_le _, UnderP.new node⟩) (GivesTo.g) (sub_cons rfl (sub_cons rfl (sub_cons rfl (sub_nil)))) ?_
  rintro ⟨i, s⟩ ⟨hil, hun⟩
  dsimp only at hil hun ⊢
  refine T_seq ?_
  refine T_region ?_
  refine TL_y rfl rfl (Y_move rfl) ?_
  refine TL_y rfl rfl (Y_move rfl) ?_
  refine TL_y rfl rfl (Y_len rfl) ?_
  refine TL_y rfl rfl (Y_lt rfl rfl) ?_
  refine TL_nil ?_
  refine T_if rfl (fun h37 => ?_) (fun h37 => ?_)
  · refine T_skip ?_
    refine thenS_normal ?_
    refine T_seq ?_
    refine T_block ?_
    obtain ⟨m, hm⟩ : ∃ m, l[i]? = some m := ⟨_, List.getElem?_eq_getElem (by omega)⟩
    have hmb := hb m (List.mem_of_getElem? hm)
    have hun2 := hun.step m
    refine T_addr_n (sln (A := A) (c := c)) hm fun bq oq eq => ?_
    subst eq
    refine T_region ?_
    refine TL_y rfl rfl (Y_move rfl) ?_
    refine TL_pullk b17 ?_
    refine TL_call rfl rfl (acPromised_spec) ?_
    rintro _ _ ⟨rfl, rfl⟩
    refine TL_alloc rfl rfl ?_
    intro b8
    refine TL_store rfl rfl rfl rfl rfl rfl ?_
    refine TL_nil ?_
    refine T_region ?_
    refine TL_y rfl rfl (Y_move rfl) ?_
    refine TL_y rfl rfl (Y_move rfl) ?_
    refine TL_y rfl rfl (Y_move rfl) ?_
    refine TL_index_n rfl rfl rfl (rfl) ((sln (A := some ⟨bq, oq, none⟩) (c := c))) (hm) ?_
    intro bn46 on46 hA46 hk46
    have hu46 := hm
    refine TL_load_nx rfl rfl hk46 hu46 (fun _ => rfl) ?_
    intro p47 ok47
    simp only [List.cons_append, List.nil_append]
    refine TL_pullk b17 ?_
    refine TL_call rfl rfl (acOn_spec m p47 ok47 ⟨slk, slk, slk, slk⟩ hmb) ?_
    rintro _ _ ⟨q, rfl, rfl⟩
    refine TL_y rfl rfl (Y_move rfl) ?_
    refine TL_y rfl rfl (Y_extract rfl rfl) ?_
    refine TL_y rfl rfl (Y_extract rfl rfl) ?_
    refine TL_y rfl rfl (Y_extract rfl rfl) ?_
    refine TL_alloc rfl rfl ?_
    intro b9
    refine TL_store rfl rfl rfl rfl rfl rfl ?_
    refine TL_y rfl rfl (Y_assign rfl) ?_
    refine TL_y rfl rfl (Y_assign rfl) ?_
    refine TL_nil ?_
    refine T_region ?_
    refine TL_y rfl rfl (Y_move rfl) ?_
    refine TL_pullk b17 ?_
    refine TL_call rfl rfl (acPromised_spec) ?_
    rintro _ _ ⟨rfl, rfl⟩
    refine TL_alloc rfl rfl ?_
    intro b12
    refine TL_store rfl rfl rfl rfl rfl rfl ?_
    refine TL_nil ?_
    refine T_seq ?_
    rcases acWays s m with ⟨hw, hr, hs⟩ | ⟨hw, hn, hr, hs, hp⟩ | ⟨hw, hn, hle, hs, hp⟩
    · refine T_region ?_
      refine TL_y rfl rfl (Y_load_agg rfl rfl) ?_
      refine TL_y rfl rfl (Y_load_agg rfl rfl) ?_
      refine TL_call rfl rfl (compare_spec (stA s m).prom s.prom _) ?_
      rintro _ _ ⟨rfl, rfl⟩
      refine TL_y rfl rfl (Y_lt rfl rfl) ?_
      refine TL_name 57 (v' := .bool false) rfl (congrArg Value.bool (by rw [hs, cmpB_self]; decide)) ?_
      refine TL_y rfl rfl (Y_move rfl) ?_
      refine TL_grun rfl rfl ?_
      refine TL_y rfl rfl (Y_move rfl) ?_
      refine TL_name 59 (v' := .bool false) rfl (congrArg Value.bool (decide_eq_false hw)) ?_
      refine TL_grun rfl rfl ?_
      refine TL_y rfl rfl (Y_not_f rfl) ?_
      refine TL_grun rfl rfl ?_
      refine TL_y rfl rfl (Y_move rfl) ?_
      refine TL_grun rfl rfl ?_
      refine TL_y rfl rfl (Y_load_agg rfl rfl) ?_
      refine TL_grun rfl rfl ?_
      refine TL_y rfl rfl (Y_load_agg rfl rfl) ?_
      refine TL_grun rfl rfl ?_
      refine TL_y rfl rfl (Y_ne_bal (a := (stA s m).prom) (b := s.prom) rfl rfl) ?_
      refine TL_name 64 (v' := .bool false) rfl (congrArg Value.bool (pair_ne (by rw [hs]))) ?_
      refine TL_grun rfl rfl ?_
      refine TL_y rfl rfl (Y_move rfl) ?_
      refine TL_grun rfl rfl ?_
      refine TL_y rfl rfl (Y_move rfl) ?_
      refine TL_grun rfl rfl ?_
      refine TL_y rfl rfl (Y_str_ne rfl rfl) ?_
      refine TL_name 67 (v' := .bool false) rfl (congrArg Value.bool (by rw [hr]; decide)) ?_
      refine TL_grun rfl rfl ?_
      refine TL_y rfl rfl (Y_pick_f rfl rfl) ?_
      refine TL_grun rfl rfl ?_
      refine TL_y rfl rfl (Y_pick_t rfl rfl) ?_
      refine TL_y rfl rfl (Y_pick_f rfl rfl) ?_
      refine TL_nil ?_
      refine T_cond_false rfl ?_
      refine T_skip ?_
      refine thenS_normal ?_
      refine T_seq ?_
      refine T_region_draw _ [0, 1, 3, 7, 15, 31, 63, 127, 127, 127, 895, 1919, 3967, 8191, 16383, 32767, 32767, 131071, 262143, 524287, 32767, 2097151, 4194303, 8388607, 16777215] [] [(0, true), (1, true), (2, true), (3, true), (4, true), (5, true), (6, true), (7, true), (8, true), (9, true), (10, true), (11, true), (12, true), (13, true), (14, true), (15, true), (16, true), (17, true), (18, true), (19, true), (20, true), (21, false), (22, true), (23, true), (24, true)] (by kernel_rfl) (by decide +kernel) (Gives.refl _) ?_
      refine TF_y rfl rfl (Y_move rfl) ?_
      refine TF_name 71 (v' := .bool false) rfl (congrArg Value.bool (decide_eq_false hw)) ?_
      refine TF_y rfl rfl (Y_move rfl) ?_
      refine TF_gskip rfl rfl rfl rfl rfl ?_
      refine TF_gskip rfl rfl rfl rfl rfl ?_
      refine TF_gskip rfl rfl rfl rfl rfl ?_
      refine TF_y rfl rfl (Y_pick_f rfl rfl) ?_
      refine TF_y rfl rfl (Y_move rfl) ?_
      refine TF_gskip rfl rfl rfl rfl rfl ?_
      refine TF_gskip rfl rfl rfl rfl rfl ?_
      refine TF_gskip rfl rfl rfl rfl rfl ?_
      refine TF_gskip rfl rfl rfl rfl rfl ?_
      refine TF_gskip rfl rfl rfl rfl rfl ?_
      refine TF_gskip rfl rfl rfl rfl rfl ?_
      refine TF_gskip rfl rfl rfl rfl rfl ?_
      refine TF_gskip rfl rfl rfl rfl rfl ?_
      refine TF_gskip_u rfl rfl rfl rfl ?_
      refine TF_gskip_u rfl rfl rfl rfl ?_
      refine TF_gskip_u rfl rfl rfl rfl ?_
      refine TF_gskip_u rfl rfl rfl rfl ?_
      refine TF_gskip_u rfl rfl rfl rfl ?_
      refine TF_gskip_u rfl rfl rfl rfl ?_
      refine TF_anchor rfl ?_
      refine TL_gskip_u rfl rfl rfl ?_
      refine TF_end GivesTo.g ?_
      refine TF_gskip_u rfl rfl rfl rfl ?_
      refine TF_gskip rfl rfl rfl rfl rfl ?_
      refine TF_y rfl rfl (Y_pick_f rfl rfl) ?_
      refine TF_nil ?_
      refine T_cond_false rfl ?_
      refine T_skip ?_
      refine thenS_normal ?_
      refine T_seq ?_
      refine T_region ?_
      refine TL_y rfl rfl (Y_move rfl) ?_
      refine TL_name 96 (v' := .bool false) rfl (congrArg Value.bool (decide_eq_false hw)) ?_
      refine TL_y rfl rfl (Y_move rfl) ?_
      refine TL_gskip rfl rfl rfl rfl ?_
      refine TL_gskip rfl rfl rfl rfl ?_
      refine TL_gskip rfl rfl rfl rfl ?_
      refine TL_y rfl rfl (Y_pick_f rfl rfl) ?_
      refine TL_y rfl rfl (Y_move rfl) ?_
      refine TL_gskip rfl rfl rfl rfl ?_
      refine TL_gskip rfl rfl rfl rfl ?_
      refine TL_gskip rfl rfl rfl rfl ?_
      refine TL_gskip rfl rfl rfl rfl ?_
      refine TL_gskip_u rfl rfl rfl ?_
      refine TL_gskip_u rfl rfl rfl ?_
      refine TL_gskip rfl rfl rfl rfl ?_
      refine TL_gskip rfl rfl rfl rfl ?_
      refine TL_gskip_u rfl rfl rfl ?_
      refine TL_gskip_u rfl rfl rfl ?_
      refine TL_gskip_u rfl rfl rfl ?_
      refine TL_gskip_u rfl rfl rfl ?_
      refine TL_gskip rfl rfl rfl rfl ?_
      refine TL_y rfl rfl (Y_pick_f rfl rfl) ?_
      refine TL_nil ?_
      refine T_cond_false rfl ?_
      refine T_skip ?_
      refine thenS_normal ?_
      refine T_region ?_
      refine TL_y rfl rfl (Y_move rfl) ?_
      refine TL_pullk b17 ?_
      refine TL_call rfl rfl (acVotes_spec) ?_
      rintro _ _ ⟨A118, c118, rfl, rfl⟩
      refine TL_freeze_osl ?_
      refine TL_pullk b17 ?_
      refine TL_acI fun hi => ?_
      refine TL_y rfl rfl (Y_assign rfl) ?_
      refine TL_nil ?_
      refine T_region ?_
      refine TL_y rfl rfl (Y_assign rfl) ?_
      refine TL_nil ?_
      refine T_block ?_
      refine T_loopK (σ := Nat) [1, 5, 7, 12, 13] (fun k => k ≤ (stA s m).V.length) (fun k kv => (14, .int .i64 (k : Int)) :: kv) (fun k => ac b17 (stA s m) :: sl votedR A118 c118 (stA s m).V :: cells b12 [.int .i64 (stA s m).prom.1, .int .i64 (stA s m).prom.2] 40 :: sl msgR (some ⟨bq, oq, none⟩) c l :: L) (fun k => (stA s m).V.length - k) (0) rfl (Nat.zero_le _) (GivesTo.g) (sub_cons rfl (sub_cons rfl (sub_cons rfl (sub_cons rfl (sub_cons rfl (sub_cons rfl (sub_nil))))))) ?_
      intro k hk
      refine T_seq ?_
      refine T_region ?_
      refine TL_y rfl rfl (Y_move rfl) ?_
      refine TL_y rfl rfl (Y_move rfl) ?_
      refine TL_y rfl rfl (Y_len rfl) ?_
      refine TL_y rfl rfl (Y_lt rfl rfl) ?_
      refine TL_nil ?_
      refine T_if rfl (fun h122 => ?_) (fun h122 => ?_)
      · refine T_skip ?_
        refine thenS_normal ?_
        refine T_seq ?_
        refine T_block ?_
        have hVl := hi.len
        obtain ⟨v, hv⟩ : ∃ v, (stA s m).V[k]? = some v := ⟨_, List.getElem?_eq_getElem (by omega)⟩
        have hvu := hun2 v (List.mem_of_getElem? hv)
        refine T_addr_n (sln (A := A118) (c := c118)) hv fun bv ov ev => ?_
        subst ev
        refine T_region_draw _ [0, 0, 3, 7, 15, 0, 63, 127, 255, 511, 1023, 2047, 4095, 4095, 12287, 32767, 65535, 131071, 4095, 4095, 790527, 1839103, 3936255, 8388607, 16777215, 33554431] [] [(0, true), (1, true), (2, true), (3, true), (4, true), (5, true), (6, false), (7, true), (8, true), (9, true), (10, true), (11, true), (12, true), (13, true), (14, true), (15, true), (16, true), (17, true), (18, true), (19, true), (20, true), (21, true), (22, true), (23, true), (24, true), (25, true)] (by kernel_rfl) (by decide +kernel) (Gives.refl _) ?_
        refine TF_y rfl rfl (Y_move rfl) ?_
        refine TF_y rfl rfl (Y_move rfl) ?_
        refine TF_y rfl rfl (Y_index_n (R := votedR) (xs := (stA s m).V) rfl rfl rfl hv) ?_
        refine TF_y rfl rfl (Y_field_addr2 rfl) ?_
        refine TF_y rfl rfl (Y_load_nxa (xs := (stA s m).V) (u := v) (vs := [.int .i64 v.bal.1, .int .i64 v.bal.2]) rfl (sln (c := c118)) hv (fun _ => rfl)) ?_
        refine TF_y rfl rfl (Y_load_agg rfl rfl) ?_
        refine TF_anchor rfl ?_
        refine TL_call rfl rfl (compare_spec v.bal (stA s m).prom _) ?_
        rintro _ _ ⟨rfl, rfl⟩
        refine TF_end GivesTo.g ?_
        refine TF_y rfl rfl (Y_gt rfl rfl) ?_
        refine TF_name 132 (v' := .bool false) rfl (congrArg Value.bool (decide_eq_false hvu)) ?_
        refine TF_y rfl rfl (Y_move rfl) ?_
        refine TF_gy rfl rfl rfl rfl (Y_move rfl) ?_
        refine TF_gy rfl rfl rfl rfl (Y_gt rfl rfl) ?_
        refine TF_gy rfl rfl rfl rfl (Y_move rfl) ?_
        refine TF_splitd 136 rfl (fun h136 => ?_) (fun h136 => ?_)
        · refine TF_gy rfl rfl rfl rfl (Y_move rfl) ?_
          refine TF_gy rfl rfl rfl rfl (Y_move rfl) ?_
          refine TF_gy rfl rfl rfl rfl (Y_sub rfl rfl (by omega)) ?_
          refine TF_name 139 (v' := .int .i64 ((k - 1 : Nat) : Int)) rfl (by congr 1; omega) ?_
          obtain ⟨u, hu⟩ : ∃ u, (stA s m).V[k - 1]? = some u := ⟨_, List.getElem?_eq_getElem (by omega)⟩
          have hlt := inc_at hi.inc hu hv (by omega)
          refine TF_gy rfl rfl rfl rfl (Y_index_n (R := votedR) (xs := (stA s m).V) rfl rfl rfl hu) ?_
          refine TF_gy rfl rfl rfl rfl (Y_field_addr2 rfl) ?_
          refine TF_gy rfl rfl rfl rfl (Y_load_nx (xs := (stA s m).V) (u := u) (v := .int .i64 u.slot) rfl (sln (c := c118)) hu (fun _ => rfl)) ?_
          refine TF_gy rfl rfl rfl rfl (Y_move rfl) ?_
          refine TF_gy rfl rfl rfl rfl (Y_move rfl) ?_
          refine TF_gy rfl rfl rfl rfl (Y_index_n (R := votedR) (xs := (stA s m).V) rfl rfl rfl hv) ?_
          refine TF_gy rfl rfl rfl rfl (Y_field_addr2 rfl) ?_
          refine TF_gy rfl rfl rfl rfl (Y_load_nx (xs := (stA s m).V) (u := v) (v := .int .i64 v.slot) rfl (sln (c := c118)) hv (fun _ => rfl)) ?_
          refine TF_gy rfl rfl rfl rfl (Y_ge rfl rfl) ?_
          refine TF_name 148 (v' := .bool false) rfl (congrArg Value.bool (decide_eq_false (by omega))) ?_
          refine TF_gy rfl rfl rfl rfl (Y_pick_t rfl rfl) ?_
          refine TF_y rfl rfl (Y_pick_f rfl rfl) ?_
          refine TF_nil ?_
          refine T_cond_false rfl ?_
          refine T_skip ?_
          refine inB_normal ?_
          refine thenS_normal ?_
          refine T_region_last ?_
          refine TL_y rfl rfl (Y_move rfl) ?_
          refine TL_y rfl rfl (Y_add rfl rfl (by omega)) ?_
          refine TL_name 124 (v' := .int .i64 ((k + 1 : Nat) : Int)) rfl (rfl) ?_
          refine TL_y rfl rfl (Y_assign rfl) ?_
          refine TL_nil ?_
          refine thenS_normal ?_
          exact ⟨k + 1, (by omega), by omega, holds_to (sub_cons rfl (sub_cons rfl (sub_cons rfl (sub_cons rfl (sub_cons rfl (sub_cons rfl (sub_nil))))))) GivesTo.g⟩
        · refine TF_gskip rfl rfl rfl rfl rfl ?_
          refine TF_gskip rfl rfl rfl rfl rfl ?_
          refine TF_gskip rfl rfl rfl rfl rfl ?_
          refine TF_gskip rfl rfl rfl rfl rfl ?_
          refine TF_gskip rfl rfl rfl rfl rfl ?_
          refine TF_gskip rfl rfl rfl rfl rfl ?_
          refine TF_gskip rfl rfl rfl rfl rfl ?_
          refine TF_gskip rfl rfl rfl rfl rfl ?_
          refine TF_gskip rfl rfl rfl rfl rfl ?_
          refine TF_gskip rfl rfl rfl rfl rfl ?_
          refine TF_gskip rfl rfl rfl rfl rfl ?_
          refine TF_gskip rfl rfl rfl rfl rfl ?_
          refine TF_gy rfl rfl rfl rfl (Y_pick_f rfl rfl) ?_
          refine TF_y rfl rfl (Y_pick_f rfl rfl) ?_
          refine TF_nil ?_
          refine T_cond_false rfl ?_
          refine T_skip ?_
          refine inB_normal ?_
          refine thenS_normal ?_
          refine T_region_last ?_
          refine TL_y rfl rfl (Y_move rfl) ?_
          refine TL_y rfl rfl (Y_add rfl rfl (by omega)) ?_
          refine TL_name 124 (v' := .int .i64 ((k + 1 : Nat) : Int)) rfl (rfl) ?_
          refine TL_y rfl rfl (Y_assign rfl) ?_
          refine TL_nil ?_
          refine thenS_normal ?_
          exact ⟨k + 1, (by omega), by omega, holds_to (sub_cons rfl (sub_cons rfl (sub_cons rfl (sub_cons rfl (sub_cons rfl (sub_cons rfl (sub_nil))))))) GivesTo.g⟩
      · refine T_exit ?_
        refine thenS_exit ?_
        refine thenS_exit ?_
        refine inB_hit ?_
        refine inB_normal ?_
        refine thenS_normal ?_
        refine T_region_last ?_
        refine TL_y rfl rfl (Y_move rfl) ?_
        refine TL_y rfl rfl (Y_add rfl rfl (by omega)) ?_
        refine TL_name 39 (v' := .int .i64 ((i + 1 : Nat) : Int)) rfl (rfl) ?_
        refine TL_y rfl rfl (Y_assign rfl) ?_
        refine TL_nil ?_
        refine thenS_normal ?_
        exact ⟨⟨i + 1, stA s m⟩, ⟨by simp only; omega, hun2⟩, by simp only; omega, holds_to (sub_cons rfl (sub_cons rfl (sub_cons rfl (sub_nil)))) GivesTo.g⟩
    · refine T_region ?_
      refine TL_y rfl rfl (Y_load_agg rfl rfl) ?_
      refine TL_y rfl rfl (Y_load_agg rfl rfl) ?_
      refine TL_call rfl rfl (compare_spec (stA s m).prom s.prom _) ?_
      rintro _ _ ⟨rfl, rfl⟩
      refine TL_y rfl rfl (Y_lt rfl rfl) ?_
      refine TL_name 57 (v' := .bool false) rfl (congrArg Value.bool (by rw [hs, cmpB_self]; decide)) ?_
      refine TL_y rfl rfl (Y_move rfl) ?_
      refine TL_grun rfl rfl ?_
      refine TL_y rfl rfl (Y_move rfl) ?_
      refine TL_name 59 (v' := .bool true) rfl (congrArg Value.bool (decide_eq_true hw)) ?_
      refine TL_grun rfl rfl ?_
      refine TL_y rfl rfl (Y_not_t rfl) ?_
      refine TL_grun rfl rfl ?_
      refine TL_y rfl rfl (Y_move rfl) ?_
      refine TL_gskip rfl rfl rfl rfl ?_
      refine TL_gskip rfl rfl rfl rfl ?_
      refine TL_gskip rfl rfl rfl rfl ?_
      refine TL_gskip rfl rfl rfl rfl ?_
      refine TL_gskip_u rfl rfl rfl ?_
      refine TL_gskip_u rfl rfl rfl ?_
      refine TL_gskip rfl rfl rfl rfl ?_
      refine TL_grun rfl rfl ?_
      refine TL_y rfl rfl (Y_pick_f rfl rfl) ?_
      refine TL_y rfl rfl (Y_pick_f rfl rfl) ?_
      refine TL_nil ?_
      refine T_cond_false rfl ?_
      refine T_skip ?_
      refine thenS_normal ?_
      refine T_seq ?_
      refine T_region_draw _ [0, 1, 3, 7, 15, 31, 63, 127, 127, 127, 895, 1919, 3967, 8191, 16383, 32767, 32767, 131071, 262143, 524287, 32767, 2097151, 4194303, 8388607, 16777215] [] [(0, true), (1, true), (2, true), (3, true), (4, true), (5, true), (6, true), (7, true), (8, true), (9, true), (10, true), (11, true), (12, true), (13, true), (14, true), (15, true), (16, true), (17, true), (18, true), (19, true), (20, true), (21, false), (22, true), (23, true), (24, true)] (by kernel_rfl) (by decide +kernel) (Gives.refl _) ?_
      refine TF_y rfl rfl (Y_move rfl) ?_
      refine TF_name 71 (v' := .bool true) rfl (congrArg Value.bool (decide_eq_true hw)) ?_
      refine TF_y rfl rfl (Y_move rfl) ?_
      refine TF_gy rfl rfl rfl rfl (Y_field_addr rfl) ?_
      refine TF_gy rfl rfl rfl rfl (Y_load rfl rfl) ?_
      refine TF_gy rfl rfl rfl rfl (Y_ne rfl rfl) ?_
      refine TF_name 75 (v' := .bool false) rfl (congrArg Value.bool (by rw [hp]; rfl)) ?_
      refine TF_y rfl rfl (Y_pick_t rfl rfl) ?_
      refine TF_y rfl rfl (Y_move rfl) ?_
      refine TF_gskip rfl rfl rfl rfl rfl ?_
      refine TF_gskip rfl rfl rfl rfl rfl ?_
      refine TF_gskip rfl rfl rfl rfl rfl ?_
      refine TF_gskip rfl rfl rfl rfl rfl ?_
      refine TF_gskip rfl rfl rfl rfl rfl ?_
      refine TF_gskip rfl rfl rfl rfl rfl ?_
      refine TF_gskip rfl rfl rfl rfl rfl ?_
      refine TF_gskip rfl rfl rfl rfl rfl ?_
      refine TF_gskip_u rfl rfl rfl rfl ?_
      refine TF_gskip_u rfl rfl rfl rfl ?_
      refine TF_gskip_u rfl rfl rfl rfl ?_
      refine TF_gskip_u rfl rfl rfl rfl ?_
      refine TF_gskip_u rfl rfl rfl rfl ?_
      refine TF_gskip_u rfl rfl rfl rfl ?_
      refine TF_anchor rfl ?_
      refine TL_gskip_u rfl rfl rfl ?_
      refine TF_end GivesTo.g ?_
      refine TF_gskip_u rfl rfl rfl rfl ?_
      refine TF_gskip rfl rfl rfl rfl rfl ?_
      refine TF_y rfl rfl (Y_pick_f rfl rfl) ?_
      refine TF_nil ?_
      refine T_cond_false rfl ?_
      refine T_skip ?_
      refine thenS_normal ?_
      refine T_seq ?_
      refine T_region ?_
      refine TL_y rfl rfl (Y_move rfl) ?_
      refine TL_name 96 (v' := .bool true) rfl (congrArg Value.bool (decide_eq_true hw)) ?_
      refine TL_y rfl rfl (Y_move rfl) ?_
      refine TL_grun rfl rfl ?_
      refine TL_y rfl rfl (Y_field_addr rfl) ?_
      refine TL_grun rfl rfl ?_
      refine TL_y rfl rfl (Y_load rfl rfl) ?_
      refine TL_grun rfl rfl ?_
      refine TL_y rfl rfl (Y_eq rfl rfl) ?_
      refine TL_name 100 (v' := .bool true) rfl (congrArg Value.bool (by rw [hp]; rfl)) ?_
      refine TL_y rfl rfl (Y_pick_t rfl rfl) ?_
      refine TL_y rfl rfl (Y_move rfl) ?_
      refine TL_grun rfl rfl ?_
      refine TL_y rfl rfl (Y_load_agg rfl rfl) ?_
      refine TL_grun rfl rfl ?_
      refine TL_y rfl rfl (Y_load_agg rfl rfl) ?_
      refine TL_grun rfl rfl ?_
      refine TL_y rfl rfl (Y_ne_bal (a := (stA s m).prom) (b := s.prom) rfl rfl) ?_
      refine TL_name 105 (v' := .bool false) rfl (congrArg Value.bool (pair_ne (by rw [hs]))) ?_
      refine TL_grun rfl rfl ?_
      refine TL_y rfl rfl (Y_move rfl) ?_
      refine TL_grun rfl rfl ?_
      refine TL_y rfl rfl (Y_move rfl) ?_
      refine TL_grun rfl rfl ?_
      refine TL_y rfl rfl (Y_str_ne rfl rfl) ?_
      refine TL_name 108 (v' := .bool false) rfl (congrArg Value.bool (by rw [hr]; decide)) ?_
      refine TL_grun rfl rfl ?_
      refine TL_y rfl rfl (Y_pick_f rfl rfl) ?_
      refine TL_grun rfl rfl ?_
      refine TL_y rfl rfl (Y_move rfl) ?_
      refine TL_grun rfl rfl ?_
      refine TL_y rfl rfl (Y_field_addr rfl) ?_
      refine TL_grun rfl rfl ?_
      refine TL_y rfl rfl (Y_load_agg rfl rfl) ?_
      refine TL_grun rfl rfl ?_
      refine TL_y rfl rfl (Y_load_agg rfl rfl) ?_
      refine TL_grun rfl rfl ?_
      refine TL_y rfl rfl (Y_ne_bal (a := (repA s m).bal) (b := s.prom) rfl rfl) ?_
      refine TL_name 114 (v' := .bool false) rfl (congrArg Value.bool (pair_ne (by rw [hp]; rfl))) ?_
      refine TL_grun rfl rfl ?_
      refine TL_y rfl rfl (Y_pick_f rfl rfl) ?_
      refine TL_y rfl rfl (Y_pick_t rfl rfl) ?_
      refine TL_nil ?_
      refine T_cond_false rfl ?_
      refine T_skip ?_
      refine thenS_normal ?_
      refine T_region ?_
      refine TL_y rfl rfl (Y_move rfl) ?_
      refine TL_pullk b17 ?_
      refine TL_call rfl rfl (acVotes_spec) ?_
      rintro _ _ ⟨A118, c118, rfl, rfl⟩
      refine TL_freeze_osl ?_
      refine TL_pullk b17 ?_
      refine TL_acI fun hi => ?_
      refine TL_y rfl rfl (Y_assign rfl) ?_
      refine TL_nil ?_
      refine T_region ?_
      refine TL_y rfl rfl (Y_assign rfl) ?_
      refine TL_nil ?_
      refine T_block ?_
      refine T_loopK (σ := Nat) [1, 5, 7, 12, 13] (fun k => k ≤ (stA s m).V.length) (fun k kv => (14, .int .i64 (k : Int)) :: kv) (fun k => ac b17 (stA s m) :: sl votedR A118 c118 (stA s m).V :: cells b12 [.int .i64 (stA s m).prom.1, .int .i64 (stA s m).prom.2] 40 :: sl msgR (some ⟨bq, oq, none⟩) c l :: L) (fun k => (stA s m).V.length - k) (0) rfl (Nat.zero_le _) (GivesTo.g) (sub_cons rfl (sub_cons rfl (sub_cons rfl (sub_cons rfl (sub_cons rfl (sub_cons rfl (sub_nil))))))) ?_
      intro k hk
      refine T_seq ?_
      refine T_region ?_
      refine TL_y rfl rfl (Y_move rfl) ?_
      refine TL_y rfl rfl (Y_move rfl) ?_
      refine TL_y rfl rfl (Y_len rfl) ?_
      refine TL_y rfl rfl (Y_lt rfl rfl) ?_
      refine TL_nil ?_
      refine T_if rfl (fun h122 => ?_) (fun h122 => ?_)
      · refine T_skip ?_
        refine thenS_normal ?_
        refine T_seq ?_
        refine T_block ?_
        have hVl := hi.len
        obtain ⟨v, hv⟩ : ∃ v, (stA s m).V[k]? = some v := ⟨_, List.getElem?_eq_getElem (by omega)⟩
        have hvu := hun2 v (List.mem_of_getElem? hv)
        refine T_addr_n (sln (A := A118) (c := c118)) hv fun bv ov ev => ?_
        subst ev
        refine T_region_draw _ [0, 0, 3, 7, 15, 0, 63, 127, 255, 511, 1023, 2047, 4095, 4095, 12287, 32767, 65535, 131071, 4095, 4095, 790527, 1839103, 3936255, 8388607, 16777215, 33554431] [] [(0, true), (1, true), (2, true), (3, true), (4, true), (5, true), (6, false), (7, true), (8, true), (9, true), (10, true), (11, true), (12, true), (13, true), (14, true), (15, true), (16, true), (17, true), (18, true), (19, true), (20, true), (21, true), (22, true), (23, true), (24, true), (25, true)] (by kernel_rfl) (by decide +kernel) (Gives.refl _) ?_
        refine TF_y rfl rfl (Y_move rfl) ?_
        refine TF_y rfl rfl (Y_move rfl) ?_
        refine TF_y rfl rfl (Y_index_n (R := votedR) (xs := (stA s m).V) rfl rfl rfl hv) ?_
        refine TF_y rfl rfl (Y_field_addr2 rfl) ?_
        refine TF_y rfl rfl (Y_load_nxa (xs := (stA s m).V) (u := v) (vs := [.int .i64 v.bal.1, .int .i64 v.bal.2]) rfl (sln (c := c118)) hv (fun _ => rfl)) ?_
        refine TF_y rfl rfl (Y_load_agg rfl rfl) ?_
        refine TF_anchor rfl ?_
        refine TL_call rfl rfl (compare_spec v.bal (stA s m).prom _) ?_
        rintro _ _ ⟨rfl, rfl⟩
        refine TF_end GivesTo.g ?_
        refine TF_y rfl rfl (Y_gt rfl rfl) ?_
        refine TF_name 132 (v' := .bool false) rfl (congrArg Value.bool (decide_eq_false hvu)) ?_
        refine TF_y rfl rfl (Y_move rfl) ?_
        refine TF_gy rfl rfl rfl rfl (Y_move rfl) ?_
        refine TF_gy rfl rfl rfl rfl (Y_gt rfl rfl) ?_
        refine TF_gy rfl rfl rfl rfl (Y_move rfl) ?_
        refine TF_splitd 136 rfl (fun h136 => ?_) (fun h136 => ?_)
        · refine TF_gy rfl rfl rfl rfl (Y_move rfl) ?_
          refine TF_gy rfl rfl rfl rfl (Y_move rfl) ?_
          refine TF_gy rfl rfl rfl rfl (Y_sub rfl rfl (by omega)) ?_
          refine TF_name 139 (v' := .int .i64 ((k - 1 : Nat) : Int)) rfl (by congr 1; omega) ?_
          obtain ⟨u, hu⟩ : ∃ u, (stA s m).V[k - 1]? = some u := ⟨_, List.getElem?_eq_getElem (by omega)⟩
          have hlt := inc_at hi.inc hu hv (by omega)
          refine TF_gy rfl rfl rfl rfl (Y_index_n (R := votedR) (xs := (stA s m).V) rfl rfl rfl hu) ?_
          refine TF_gy rfl rfl rfl rfl (Y_field_addr2 rfl) ?_
          refine TF_gy rfl rfl rfl rfl (Y_load_nx (xs := (stA s m).V) (u := u) (v := .int .i64 u.slot) rfl (sln (c := c118)) hu (fun _ => rfl)) ?_
          refine TF_gy rfl rfl rfl rfl (Y_move rfl) ?_
          refine TF_gy rfl rfl rfl rfl (Y_move rfl) ?_
          refine TF_gy rfl rfl rfl rfl (Y_index_n (R := votedR) (xs := (stA s m).V) rfl rfl rfl hv) ?_
          refine TF_gy rfl rfl rfl rfl (Y_field_addr2 rfl) ?_
          refine TF_gy rfl rfl rfl rfl (Y_load_nx (xs := (stA s m).V) (u := v) (v := .int .i64 v.slot) rfl (sln (c := c118)) hv (fun _ => rfl)) ?_
          refine TF_gy rfl rfl rfl rfl (Y_ge rfl rfl) ?_
          refine TF_name 148 (v' := .bool false) rfl (congrArg Value.bool (decide_eq_false (by omega))) ?_
          refine TF_gy rfl rfl rfl rfl (Y_pick_t rfl rfl) ?_
          refine TF_y rfl rfl (Y_pick_f rfl rfl) ?_
          refine TF_nil ?_
          refine T_cond_false rfl ?_
          refine T_skip ?_
          refine inB_normal ?_
          refine thenS_normal ?_
          refine T_region_last ?_
          refine TL_y rfl rfl (Y_move rfl) ?_
          refine TL_y rfl rfl (Y_add rfl rfl (by omega)) ?_
          refine TL_name 124 (v' := .int .i64 ((k + 1 : Nat) : Int)) rfl (rfl) ?_
          refine TL_y rfl rfl (Y_assign rfl) ?_
          refine TL_nil ?_
          refine thenS_normal ?_
          exact ⟨k + 1, (by omega), by omega, holds_to (sub_cons rfl (sub_cons rfl (sub_cons rfl (sub_cons rfl (sub_cons rfl (sub_cons rfl (sub_nil))))))) GivesTo.g⟩
        · refine TF_gskip rfl rfl rfl rfl rfl ?_
          refine TF_gskip rfl rfl rfl rfl rfl ?_
          refine TF_gskip rfl rfl rfl rfl rfl ?_
          refine TF_gskip rfl rfl rfl rfl rfl ?_
          refine TF_gskip rfl rfl rfl rfl rfl ?_
          refine TF_gskip rfl rfl rfl rfl rfl ?_
          refine TF_gskip rfl rfl rfl rfl rfl ?_
          refine TF_gskip rfl rfl rfl rfl rfl ?_
          refine TF_gskip rfl rfl rfl rfl rfl ?_
          refine TF_gskip rfl rfl rfl rfl rfl ?_
          refine TF_gskip rfl rfl rfl rfl rfl ?_
          refine TF_gskip rfl rfl rfl rfl rfl ?_
          refine TF_gy rfl rfl rfl rfl (Y_pick_f rfl rfl) ?_
          refine TF_y rfl rfl (Y_pick_f rfl rfl) ?_
          refine TF_nil ?_
          refine T_cond_false rfl ?_
          refine T_skip ?_
          refine inB_normal ?_
          refine thenS_normal ?_
          refine T_region_last ?_
          refine TL_y rfl rfl (Y_move rfl) ?_
          refine TL_y rfl rfl (Y_add rfl rfl (by omega)) ?_
          refine TL_name 124 (v' := .int .i64 ((k + 1 : Nat) : Int)) rfl (rfl) ?_
          refine TL_y rfl rfl (Y_assign rfl) ?_
          refine TL_nil ?_
          refine thenS_normal ?_
          exact ⟨k + 1, (by omega), by omega, holds_to (sub_cons rfl (sub_cons rfl (sub_cons rfl (sub_cons rfl (sub_cons rfl (sub_cons rfl (sub_nil))))))) GivesTo.g⟩
      · refine T_exit ?_
        refine thenS_exit ?_
        refine thenS_exit ?_
        refine inB_hit ?_
        refine inB_normal ?_
        refine thenS_normal ?_
        refine T_region_last ?_
        refine TL_y rfl rfl (Y_move rfl) ?_
        refine TL_y rfl rfl (Y_add rfl rfl (by omega)) ?_
        refine TL_name 39 (v' := .int .i64 ((i + 1 : Nat) : Int)) rfl (rfl) ?_
        refine TL_y rfl rfl (Y_assign rfl) ?_
        refine TL_nil ?_
        refine thenS_normal ?_
        exact ⟨⟨i + 1, stA s m⟩, ⟨by simp only; omega, hun2⟩, by simp only; omega, holds_to (sub_cons rfl (sub_cons rfl (sub_cons rfl (sub_nil)))) GivesTo.g⟩
    · refine T_region ?_
      refine TL_y rfl rfl (Y_load_agg rfl rfl) ?_
      refine TL_y rfl rfl (Y_load_agg rfl rfl) ?_
      refine TL_call rfl rfl (compare_spec (stA s m).prom s.prom _) ?_
      rintro _ _ ⟨rfl, rfl⟩
      refine TL_y rfl rfl (Y_lt rfl rfl) ?_
      refine TL_name 57 (v' := .bool false) rfl (congrArg Value.bool (by rw [hs]; exact decide_eq_false hle)) ?_
      refine TL_y rfl rfl (Y_move rfl) ?_
      refine TL_grun rfl rfl ?_
      refine TL_y rfl rfl (Y_move rfl) ?_
      refine TL_name 59 (v' := .bool true) rfl (congrArg Value.bool (decide_eq_true hw)) ?_
      refine TL_grun rfl rfl ?_
      refine TL_y rfl rfl (Y_not_t rfl) ?_
      refine TL_grun rfl rfl ?_
      refine TL_y rfl rfl (Y_move rfl) ?_
      refine TL_gskip rfl rfl rfl rfl ?_
      refine TL_gskip rfl rfl rfl rfl ?_
      refine TL_gskip rfl rfl rfl rfl ?_
      refine TL_gskip rfl rfl rfl rfl ?_
      refine TL_gskip_u rfl rfl rfl ?_
      refine TL_gskip_u rfl rfl rfl ?_
      refine TL_gskip rfl rfl rfl rfl ?_
      refine TL_grun rfl rfl ?_
      refine TL_y rfl rfl (Y_pick_f rfl rfl) ?_
      refine TL_y rfl rfl (Y_pick_f rfl rfl) ?_
      refine TL_nil ?_
      refine T_cond_false rfl ?_
      refine T_skip ?_
      refine thenS_normal ?_
      refine T_seq ?_
      refine T_region_draw _ [0, 1, 3, 7, 15, 31, 63, 127, 127, 127, 895, 1919, 3967, 8191, 16383, 32767, 32767, 131071, 262143, 524287, 32767, 2097151, 4194303, 8388607, 16777215] [] [(0, true), (1, true), (2, true), (3, true), (4, true), (5, true), (6, true), (7, true), (8, true), (9, true), (10, true), (11, true), (12, true), (13, true), (14, true), (15, true), (16, true), (17, true), (18, true), (19, true), (20, true), (21, false), (22, true), (23, true), (24, true)] (by kernel_rfl) (by decide +kernel) (Gives.refl _) ?_
      refine TF_y rfl rfl (Y_move rfl) ?_
      refine TF_name 71 (v' := .bool true) rfl (congrArg Value.bool (decide_eq_true hw)) ?_
      refine TF_y rfl rfl (Y_move rfl) ?_
      refine TF_gy rfl rfl rfl rfl (Y_field_addr rfl) ?_
      refine TF_gy rfl rfl rfl rfl (Y_load rfl rfl) ?_
      refine TF_gy rfl rfl rfl rfl (Y_ne rfl rfl) ?_
      refine TF_name 75 (v' := .bool true) rfl (congrArg Value.bool (decide_eq_true hp)) ?_
      refine TF_y rfl rfl (Y_pick_t rfl rfl) ?_
      refine TF_y rfl rfl (Y_move rfl) ?_
      refine TF_gy rfl rfl rfl rfl (Y_load_agg rfl rfl) ?_
      refine TF_gy rfl rfl rfl rfl (Y_move rfl) ?_
      refine TF_gy rfl rfl rfl rfl (Y_move rfl) ?_
      refine TF_gy rfl rfl rfl rfl (Y_index_n (R := msgR) (xs := l) rfl rfl rfl hm) ?_
      refine TF_gy rfl rfl rfl rfl (Y_field_addr2 rfl) ?_
      refine TF_gy rfl rfl rfl rfl (Y_load_nxa (xs := l) (u := m) (vs := [.int .i64 m.bal.1, .int .i64 m.bal.2]) rfl (sln (c := c)) hm (fun _ => rfl)) ?_
      refine TF_gy rfl rfl rfl rfl (Y_ne_bal (a := (stA s m).prom) (b := m.bal) rfl rfl) ?_
      refine TF_name 84 (v' := .bool false) rfl (congrArg Value.bool (pair_ne hs)) ?_
      refine TF_gy rfl rfl rfl rfl (Y_move rfl) ?_
      refine TF_gy rfl rfl rfl rfl (Y_move rfl) ?_
      refine TF_gy rfl rfl rfl rfl (Y_move rfl) ?_
      refine TF_gy rfl rfl rfl rfl (Y_index_n (R := msgR) (xs := l) rfl rfl rfl hm) ?_
      refine TF_gy rfl rfl rfl rfl (Y_field_addr2 rfl) ?_
      refine TF_gy rfl rfl rfl rfl (Y_load_nxa (xs := l) (u := m) (vs := [.int .i64 m.bal.1, .int .i64 m.bal.2]) rfl (sln (c := c)) hm (fun _ => rfl)) ?_
      refine TF_gy rfl rfl rfl rfl (Y_load_agg rfl rfl) ?_
      refine TF_anchor rfl ?_
      refine TL_grun rfl rfl ?_
      refine TL_call rfl rfl (compare_spec m.bal s.prom _) ?_
      rintro _ _ ⟨rfl, rfl⟩
      refine TF_end GivesTo.g ?_
      refine TF_gy rfl rfl rfl rfl (Y_lt rfl rfl) ?_
      refine TF_name 93 (v' := .bool false) rfl (congrArg Value.bool (decide_eq_false hle)) ?_
      refine TF_gy rfl rfl rfl rfl (Y_pick_f rfl rfl) ?_
      refine TF_y rfl rfl (Y_pick_t rfl rfl) ?_
      refine TF_nil ?_
      refine T_cond_false rfl ?_
      refine T_skip ?_
      refine thenS_normal ?_
      refine T_seq ?_
      refine T_region ?_
      refine TL_y rfl rfl (Y_move rfl) ?_
      refine TL_name 96 (v' := .bool true) rfl (congrArg Value.bool (decide_eq_true hw)) ?_
      refine TL_y rfl rfl (Y_move rfl) ?_
      refine TL_grun rfl rfl ?_
      refine TL_y rfl rfl (Y_field_addr rfl) ?_
      refine TL_grun rfl rfl ?_
      refine TL_y rfl rfl (Y_load rfl rfl) ?_
      refine TL_grun rfl rfl ?_
      refine TL_y rfl rfl (Y_eq rfl rfl) ?_
      refine TL_name 100 (v' := .bool false) rfl (congrArg Value.bool (decide_eq_false hp)) ?_
      refine TL_y rfl rfl (Y_pick_t rfl rfl) ?_
      refine TL_y rfl rfl (Y_move rfl) ?_
      refine TL_gskip rfl rfl rfl rfl ?_
      refine TL_gskip rfl rfl rfl rfl ?_
      refine TL_gskip rfl rfl rfl rfl ?_
      refine TL_gskip rfl rfl rfl rfl ?_
      refine TL_gskip_u rfl rfl rfl ?_
      refine TL_gskip_u rfl rfl rfl ?_
      refine TL_gskip rfl rfl rfl rfl ?_
      refine TL_gskip rfl rfl rfl rfl ?_
      refine TL_gskip_u rfl rfl rfl ?_
      refine TL_gskip_u rfl rfl rfl ?_
      refine TL_gskip_u rfl rfl rfl ?_
      refine TL_gskip_u rfl rfl rfl ?_
      refine TL_gskip rfl rfl rfl rfl ?_
      refine TL_y rfl rfl (Y_pick_f rfl rfl) ?_
      refine TL_nil ?_
      refine T_cond_false rfl ?_
      refine T_skip ?_
      refine thenS_normal ?_
      refine T_region ?_
      refine TL_y rfl rfl (Y_move rfl) ?_
      refine TL_pullk b17 ?_
      refine TL_call rfl rfl (acVotes_spec) ?_
      rintro _ _ ⟨A118, c118, rfl, rfl⟩
      refine TL_freeze_osl ?_
      refine TL_pullk b17 ?_
      refine TL_acI fun hi => ?_
      refine TL_y rfl rfl (Y_assign rfl) ?_
      refine TL_nil ?_
      refine T_region ?_
      refine TL_y rfl rfl (Y_assign rfl) ?_
      refine TL_nil ?_
      refine T_block ?_
      refine T_loopK (σ := Nat) [1, 5, 7, 12, 13] (fun k => k ≤ (stA s m).V.length) (fun k kv => (14, .int .i64 (k : Int)) :: kv) (fun k => ac b17 (stA s m) :: sl votedR A118 c118 (stA s m).V :: cells b12 [.int .i64 (stA s m).prom.1, .int .i64 (stA s m).prom.2] 40 :: sl msgR (some ⟨bq, oq, none⟩) c l :: L) (fun k => (stA s m).V.length - k) (0) rfl (Nat.zero_le _) (GivesTo.g) (sub_cons rfl (sub_cons rfl (sub_cons rfl (sub_cons rfl (sub_cons rfl (sub_cons rfl (sub_nil))))))) ?_
      intro k hk
      refine T_seq ?_
      refine T_region ?_
      refine TL_y rfl rfl (Y_move rfl) ?_
      refine TL_y rfl rfl (Y_move rfl) ?_
      refine TL_y rfl rfl (Y_len rfl) ?_
      refine TL_y rfl rfl (Y_lt rfl rfl) ?_
      refine TL_nil ?_
      refine T_if rfl (fun h122 => ?_) (fun h122 => ?_)
      · refine T_skip ?_
        refine thenS_normal ?_
        refine T_seq ?_
        refine T_block ?_
        have hVl := hi.len
        obtain ⟨v, hv⟩ : ∃ v, (stA s m).V[k]? = some v := ⟨_, List.getElem?_eq_getElem (by omega)⟩
        have hvu := hun2 v (List.mem_of_getElem? hv)
        refine T_addr_n (sln (A := A118) (c := c118)) hv fun bv ov ev => ?_
        subst ev
        refine T_region_draw _ [0, 0, 3, 7, 15, 0, 63, 127, 255, 511, 1023, 2047, 4095, 4095, 12287, 32767, 65535, 131071, 4095, 4095, 790527, 1839103, 3936255, 8388607, 16777215, 33554431] [] [(0, true), (1, true), (2, true), (3, true), (4, true), (5, true), (6, false), (7, true), (8, true), (9, true), (10, true), (11, true), (12, true), (13, true), (14, true), (15, true), (16, true), (17, true), (18, true), (19, true), (20, true), (21, true), (22, true), (23, true), (24, true), (25, true)] (by kernel_rfl) (by decide +kernel) (Gives.refl _) ?_
        refine TF_y rfl rfl (Y_move rfl) ?_
        refine TF_y rfl rfl (Y_move rfl) ?_
        refine TF_y rfl rfl (Y_index_n (R := votedR) (xs := (stA s m).V) rfl rfl rfl hv) ?_
        refine TF_y rfl rfl (Y_field_addr2 rfl) ?_
        refine TF_y rfl rfl (Y_load_nxa (xs := (stA s m).V) (u := v) (vs := [.int .i64 v.bal.1, .int .i64 v.bal.2]) rfl (sln (c := c118)) hv (fun _ => rfl)) ?_
        refine TF_y rfl rfl (Y_load_agg rfl rfl) ?_
        refine TF_anchor rfl ?_
        refine TL_call rfl rfl (compare_spec v.bal (stA s m).prom _) ?_
        rintro _ _ ⟨rfl, rfl⟩
        refine TF_end GivesTo.g ?_
        refine TF_y rfl rfl (Y_gt rfl rfl) ?_
        refine TF_name 132 (v' := .bool false) rfl (congrArg Value.bool (decide_eq_false hvu)) ?_
        refine TF_y rfl rfl (Y_move rfl) ?_
        refine TF_gy rfl rfl rfl rfl (Y_move rfl) ?_
        refine TF_gy rfl rfl rfl rfl (Y_gt rfl rfl) ?_
        refine TF_gy rfl rfl rfl rfl (Y_move rfl) ?_
        refine TF_splitd 136 rfl (fun h136 => ?_) (fun h136 => ?_)
        · refine TF_gy rfl rfl rfl rfl (Y_move rfl) ?_
          refine TF_gy rfl rfl rfl rfl (Y_move rfl) ?_
          refine TF_gy rfl rfl rfl rfl (Y_sub rfl rfl (by omega)) ?_
          refine TF_name 139 (v' := .int .i64 ((k - 1 : Nat) : Int)) rfl (by congr 1; omega) ?_
          obtain ⟨u, hu⟩ : ∃ u, (stA s m).V[k - 1]? = some u := ⟨_, List.getElem?_eq_getElem (by omega)⟩
          have hlt := inc_at hi.inc hu hv (by omega)
          refine TF_gy rfl rfl rfl rfl (Y_index_n (R := votedR) (xs := (stA s m).V) rfl rfl rfl hu) ?_
          refine TF_gy rfl rfl rfl rfl (Y_field_addr2 rfl) ?_
          refine TF_gy rfl rfl rfl rfl (Y_load_nx (xs := (stA s m).V) (u := u) (v := .int .i64 u.slot) rfl (sln (c := c118)) hu (fun _ => rfl)) ?_
          refine TF_gy rfl rfl rfl rfl (Y_move rfl) ?_
          refine TF_gy rfl rfl rfl rfl (Y_move rfl) ?_
          refine TF_gy rfl rfl rfl rfl (Y_index_n (R := votedR) (xs := (stA s m).V) rfl rfl rfl hv) ?_
          refine TF_gy rfl rfl rfl rfl (Y_field_addr2 rfl) ?_
          refine TF_gy rfl rfl rfl rfl (Y_load_nx (xs := (stA s m).V) (u := v) (v := .int .i64 v.slot) rfl (sln (c := c118)) hv (fun _ => rfl)) ?_
          refine TF_gy rfl rfl rfl rfl (Y_ge rfl rfl) ?_
          refine TF_name 148 (v' := .bool false) rfl (congrArg Value.bool (decide_eq_false (by omega))) ?_
          refine TF_gy rfl rfl rfl rfl (Y_pick_t rfl rfl) ?_
          refine TF_y rfl rfl (Y_pick_f rfl rfl) ?_
          refine TF_nil ?_
          refine T_cond_false rfl ?_
          refine T_skip ?_
          refine inB_normal ?_
          refine thenS_normal ?_
          refine T_region_last ?_
          refine TL_y rfl rfl (Y_move rfl) ?_
          refine TL_y rfl rfl (Y_add rfl rfl (by omega)) ?_
          refine TL_name 124 (v' := .int .i64 ((k + 1 : Nat) : Int)) rfl (rfl) ?_
          refine TL_y rfl rfl (Y_assign rfl) ?_
          refine TL_nil ?_
          refine thenS_normal ?_
          exact ⟨k + 1, (by omega), by omega, holds_to (sub_cons rfl (sub_cons rfl (sub_cons rfl (sub_cons rfl (sub_cons rfl (sub_cons rfl (sub_nil))))))) GivesTo.g⟩
        · refine TF_gskip rfl rfl rfl rfl rfl ?_
          refine TF_gskip rfl rfl rfl rfl rfl ?_
          refine TF_gskip rfl rfl rfl rfl rfl ?_
          refine TF_gskip rfl rfl rfl rfl rfl ?_
          refine TF_gskip rfl rfl rfl rfl rfl ?_
          refine TF_gskip rfl rfl rfl rfl rfl ?_
          refine TF_gskip rfl rfl rfl rfl rfl ?_
          refine TF_gskip rfl rfl rfl rfl rfl ?_
          refine TF_gskip rfl rfl rfl rfl rfl ?_
          refine TF_gskip rfl rfl rfl rfl rfl ?_
          refine TF_gskip rfl rfl rfl rfl rfl ?_
          refine TF_gskip rfl rfl rfl rfl rfl ?_
          refine TF_gy rfl rfl rfl rfl (Y_pick_f rfl rfl) ?_
          refine TF_y rfl rfl (Y_pick_f rfl rfl) ?_
          refine TF_nil ?_
          refine T_cond_false rfl ?_
          refine T_skip ?_
          refine inB_normal ?_
          refine thenS_normal ?_
          refine T_region_last ?_
          refine TL_y rfl rfl (Y_move rfl) ?_
          refine TL_y rfl rfl (Y_add rfl rfl (by omega)) ?_
          refine TL_name 124 (v' := .int .i64 ((k + 1 : Nat) : Int)) rfl (rfl) ?_
          refine TL_y rfl rfl (Y_assign rfl) ?_
          refine TL_nil ?_
          refine thenS_normal ?_
          exact ⟨k + 1, (by omega), by omega, holds_to (sub_cons rfl (sub_cons rfl (sub_cons rfl (sub_cons rfl (sub_cons rfl (sub_cons rfl (sub_nil))))))) GivesTo.g⟩
      · refine T_exit ?_
        refine thenS_exit ?_
        refine thenS_exit ?_
        refine inB_hit ?_
        refine inB_normal ?_
        refine thenS_normal ?_
        refine T_region_last ?_
        refine TL_y rfl rfl (Y_move rfl) ?_
        refine TL_y rfl rfl (Y_add rfl rfl (by omega)) ?_
        refine TL_name 39 (v' := .int .i64 ((i + 1 : Nat) : Int)) rfl (rfl) ?_
        refine TL_y rfl rfl (Y_assign rfl) ?_
        refine TL_nil ?_
        refine thenS_normal ?_
        exact ⟨⟨i + 1, stA s m⟩, ⟨by simp only; omega, hun2⟩, by simp only; omega, holds_to (sub_cons rfl (sub_cons rfl (sub_cons rfl (sub_nil)))) GivesTo.g⟩
  · refine T_exit ?_
    refine thenS_exit ?_
    refine thenS_exit ?_
    refine inB_hit ?_
    refine thenS_normal ?_
    refine T_region ?_
    refine TL_y rfl rfl (Y_assign rfl) ?_
    refine TL_nil ?_
    refine T_ret ?_
    exact RetG_1 (.inl rfl) rfl (ResV.tmp rfl) GivesTo.g (⟨rfl, rfl⟩)
theorem acceptorKeeps_bad {L : List HP} {A : Option Addr} {c : Nat} {l : List MsgD} (node : Int) (hnode : ¬ (0 ≤ node ∧ node ≤ 6)) (hk : SlK L msgR A c l) (hb : ∀ m ∈ l, cMsg m ≤ 140737488355328) (hl : l.length ≤ 281474976710656) : Fn Try.prog 4 #[.int .i64 node, .slice A l.length c] L (fun v L' => v = .bool true ∧ L' = L) := by
  refine Fn_enter Try.func4 rfl rfl rfl rfl ?_
  refine T_region ?_
  refine TL_y rfl rfl (Y_assign rfl) ?_
  refine TL_nil ?_
  refine T_region ?_
  refine TL_y rfl rfl (Y_move rfl) ?_
  refine TL_call rfl rfl (acNew_bad node hnode _) ?_
  rintro _ _ ⟨rfl, rfl⟩
  refine TL_y rfl rfl (Y_move rfl) ?_
  refine TL_y rfl rfl (Y_extract rfl rfl) ?_
  refine TL_y rfl rfl (Y_extract rfl rfl) ?_
  refine TL_y rfl rfl (Y_assign rfl) ?_
  refine TL_y rfl rfl (Y_assign rfl) ?_
  refine TL_nil ?_
  refine T_seq ?_
  refine T_region ?_
  refine TL_call rfl rfl (lives16_spec _) ?_
  rintro _ _ ⟨rfl, rfl⟩
  refine TL_name 20 (v' := .bool true) rfl (rfl) ?_
  refine TL_y rfl rfl (Y_not_t rfl) ?_
  refine TL_nil ?_
  refine T_cond_false rfl ?_
  refine T_skip ?_
  refine thenS_normal ?_
  refine T_seq ?_
  refine T_region ?_
  refine TL_y rfl rfl (Y_move rfl) ?_
  refine TL_y rfl rfl (Y_ne rfl rfl) ?_
  refine TL_name 23 (v' := .bool true) rfl (congrArg Value.bool (decide_eq_true (by decide))) ?_
  refine TL_nil ?_
  refine T_cond_true rfl ?_
  refine T_region ?_
  refine TL_y rfl rfl (Y_move rfl) ?_
  refine TL_y rfl rfl (Y_equal rfl rfl (EqIs.ptr_nil)) ?_
  refine TL_name 25 (v' := .bool true) rfl (by simp) ?_
  refine TL_y rfl rfl (Y_move rfl) ?_
  refine TL_grun rfl rfl ?_
  refine TL_y rfl rfl (Y_move rfl) ?_
  refine TL_grun rfl rfl ?_
  refine TL_y rfl rfl (Y_lt rfl rfl) ?_
  refine TL_grun rfl rfl ?_
  refine TL_y rfl rfl (Y_move rfl) ?_
  refine TL_splitd 29 rfl (fun h29 => ?_) (fun h29 => ?_)
  · refine TL_gskip rfl rfl rfl rfl ?_
    refine TL_gskip rfl rfl rfl rfl ?_
    refine TL_grun rfl rfl ?_
    refine TL_y rfl rfl (Y_pick_t rfl rfl) ?_
    refine TL_y rfl rfl (Y_pick_t rfl rfl) ?_
    refine TL_y rfl rfl (Y_assign rfl) ?_
    refine TL_nil ?_
    refine T_ret ?_
    refine thenS_ret ?_
    exact RetG_1 (.inl rfl) rfl (ResV.tmp rfl) GivesTo.g (⟨rfl, rfl⟩)
  · refine TL_grun rfl rfl ?_
    refine TL_y rfl rfl (Y_move rfl) ?_
    refine TL_grun rfl rfl ?_
    refine TL_y rfl rfl (Y_gt rfl rfl) ?_
    refine TL_name 31 (v' := .bool true) rfl (congrArg Value.bool (decide_eq_true (by omega))) ?_
    refine TL_grun rfl rfl ?_
    refine TL_y rfl rfl (Y_pick_f rfl rfl) ?_
    refine TL_y rfl rfl (Y_pick_t rfl rfl) ?_
    refine TL_y rfl rfl (Y_assign rfl) ?_
    refine TL_nil ?_
    refine T_ret ?_
    refine thenS_ret ?_
    exact RetG_1 (.inl rfl) rfl (ResV.tmp rfl) GivesTo.g (⟨rfl, rfl⟩)
theorem acceptorKeeps_walk {L : List HP} {A : Option Addr} {c : Nat} {l : List MsgD} (node : Int) (hk : SlK L msgR A c l) (hb : ∀ m ∈ l, cMsg m ≤ 140737488355328) (hl : l.length ≤ 281474976710656) : Fn Try.prog 4 #[.int .i64 node, .slice A l.length c] L (fun v L' => v = .bool true ∧ L' = L) := by
  by_cases hnode : 0 ≤ node ∧ node ≤ 6
  · exact acceptorKeeps_ok node hnode hk hb hl
  · exact acceptorKeeps_bad node hnode hk hb hl
end Go.SL
set_option linter.unusedVariables false
namespace Go.SL
open Go Go.Proofs
theorem msum_mem {α : Type} {μ : α → Nat} : ∀ {l : List α} {x : α}, x ∈ l → μ x ≤ (l.map μ).sum
  | y :: l, x, h => by
    rw [List.map_cons, List.sum_cons]
    rcases List.mem_cons.1 h with rfl | h
    · omega
    · have := msum_mem (μ := μ) h; omega
theorem msgs_small {l : List MsgD} (h : (l.map μMsg).sum ≤ 1048576) : ∀ m ∈ l, cMsg m ≤ 140737488355328 := fun m hm => cMsg_small (Nat.le_trans (msum_mem hm) h) (Nat.le_refl _)
theorem msgs_len {l : List MsgD} (h : (l.map μMsg).sum ≤ 1048576) : l.length ≤ 1048576 := by
  have := sum_ge (μ := μMsg) (fun x => by unfold μMsg; omega) l
  omega
end Go.SL
set_option linter.unusedVariables false
namespace Go.Proofs.Ytibejpgjgkeheaa
open Go.SL
theorem up_one {H : Type} (d : DataW H) : 1 ≤ Rows.uptoBulk d := by
  cases d with
  | lit l => cases l <;> simp [Rows.uptoBulk]
  | nil => simp [Rows.uptoBulk]
  | ptr d => simp [Rows.uptoBulk]
  | slice elems spare => simp [Rows.uptoBulk]
  | agg parts => simp [Rows.uptoBulk]
  | iface t d => simp [Rows.uptoBulk]
  | map entries => simp [Rows.uptoBulk]
  | held h => simp [Rows.uptoBulk]
theorem up_all {H : Type} : ∀ l : List (DataW H), Rows.uptoBulkAll l = (l.map Rows.uptoBulk).sum
  | [] => by simp [Rows.uptoBulkAll]
  | d :: l => by simp [Rows.uptoBulkAll, up_all l]
def upB {H : Type} : Bulk H := ⟨Rows.uptoBulk, up_one, fun b => by simp [Rows.uptoBulk], fun e s => by simp only [Rows.uptoBulk, up_all]; omega, fun ps => by simp only [Rows.uptoBulk, up_all]; omega, fun d => by simp only [Rows.uptoBulk]; omega⟩
theorem up_bound {H : Type} {l : List (DataW H)} (hk : Rows.uptoSmall H l = true) : (l.map upB.f).sum ≤ 1048576 := by
  have := of_decide_eq_true hk
  rwa [up_all] at this
end Go.Proofs.Ytibejpgjgkeheaa
set_option linter.unusedVariables false
set_option linter.unusedSimpArgs false
namespace Go.SL
open Go Go.Proofs
theorem i64_0 : intIn .i64 0 := i64In_mk (by decide)
theorem i64_1 : intIn .i64 1 := i64In_mk (by decide)
theorem acLess {s : AccD} {m : MsgD} (h : cmpB m.bal s.prom < 0) : (¬ mineA s m ∧ recA s m = ⟨#[]⟩ ∧ stA s m = s) ∨ (mineA s m ∧ nackA s m ∧ recA s m = ⟨#[]⟩ ∧ stA s m = s ∧ repA s m = repM s m 5 s.prom []) := by
  rcases acWays s m with h1 | h1 | ⟨_, _, h1, _⟩
  · exact .inl h1
  · exact .inr h1
  · exact absurd h h1
abbrev pm (b : Int × Int) : MsgD := ⟨1, 0, 1, b, 0, noopE, [], [], [], 0⟩
theorem pm_ok {b : Int × Int} (h1 : intIn .i64 b.1) (h2 : intIn .i64 b.2) : MsgOk (pm b) := ⟨i64_1, i64_0, i64_1, h1, h2, i64_0, noopOk, i64_0⟩
theorem pm_now {s : AccD} {b : Int × Int} (h : mineA s (pm b)) : ¬ 0 < cmpB b (stA s (pm b)).prom := by
  rcases acWays s (pm b) with ⟨hw, _⟩ | ⟨_, hn, _, hs, _⟩ | ⟨_, _, _, hs, _⟩
  · exact absurd h hw
  · rw [hs]
    rcases hn with hn | ⟨hn, _⟩
    · have : cmpB b s.prom < 0 := hn
      omega
    · exact absurd (show (1 : Int) = 3 from hn) (by decide)
  · rw [hs]
    show ¬ 0 < cmpB b b
    rw [cmpB_self]; decide
theorem acceptorFinal_walk {L : List HP} {A A2 : Option Addr} {c c2 : Nat} {l late : List MsgD} (b : Int × Int) (h1 : intIn .i64 b.1) (h2 : intIn .i64 b.2) (hk : SlK L msgR A c l) (hk2 : SlK L msgR A2 c2 late) (hb : ∀ m ∈ l, cMsg m ≤ 140737488355328) (hl : l.length ≤ 281474976710656) (hb2 : ∀ m ∈ late, cMsg m ≤ 140737488355328) (hl2 : late.length ≤ 281474976710656) : Fn Try.prog 5 #[.slice A l.length c, balV b, .slice A2 late.length c2] L (fun v L' => v = .bool true ∧ L' = L) := by
  refine Fn_enter Try.func5 rfl rfl rfl rfl ?_
  refine T_gives hk2.lay ?_
  refine T_gives hk.tail.lay ?_
  refine T_region ?_
  refine TL_box rfl rfl rfl ?_
  intro b4
  refine TL_y rfl rfl (Y_assign rfl) ?_
  refine TL_nil ?_
  refine T_region ?_
  refine TL_call rfl rfl (acNew_ok 1 (by decide) _) ?_
  rintro _ _ ⟨b20, rfl, rfl⟩
  refine TL_y rfl rfl (Y_move rfl) ?_
  refine TL_y rfl rfl (Y_extract rfl rfl) ?_
  refine TL_y rfl rfl (Y_extract rfl rfl) ?_
  refine TL_y rfl rfl (Y_assign rfl) ?_
  refine TL_y rfl rfl (Y_assign rfl) ?_
  refine TL_nil ?_
  refine T_seq ?_
  refine T_region ?_
  refine TL_call rfl rfl (lives16_spec _) ?_
  rintro _ _ ⟨rfl, rfl⟩
  refine TL_name 23 (v' := .bool true) rfl (rfl) ?_
  refine TL_y rfl rfl (Y_not_t rfl) ?_
  refine TL_y rfl rfl (Y_move rfl) ?_
  refine TL_grun rfl rfl ?_
  refine TL_y rfl rfl (Y_move rfl) ?_
  refine TL_grun rfl rfl ?_
  refine TL_y rfl rfl (Y_ne rfl rfl) ?_
  refine TL_name 27 (v' := .bool false) rfl (congrArg Value.bool (decide_eq_false (by decide))) ?_
  refine TL_y rfl rfl (Y_pick_f rfl rfl) ?_
  refine TL_y rfl rfl (Y_move rfl) ?_
  refine TL_grun rfl rfl ?_
  refine TL_y rfl rfl (Y_move rfl) ?_
  refine TL_grun rfl rfl ?_
  refine TL_y rfl rfl (Y_equal rfl rfl (EqIs.ptr_nil)) ?_
  refine TL_name 31 (v' := .bool false) rfl (by simp) ?_
  refine TL_y rfl rfl (Y_pick_f rfl rfl) ?_
  refine TL_nil ?_
  refine T_cond_false rfl ?_
  refine T_skip ?_
  refine thenS_normal ?_
  refine T_seq ?_
  refine T_region ?_
  refine TL_y rfl rfl (Y_assign rfl) ?_
  refine TL_nil ?_
  refine T_block ?_
  refine T_loopK (σ := KpSt) [0, 2, 4, 7] (fun g => g.i ≤ l.length) (fun g kv => (9, .int .i64 (g.i : Int)) :: kv) (fun g => ac b20 g.s :: cells b4 [.int .i64 b.1, .int .i64 b.2] 40 :: sl msgR A c l :: sl msgR A2 c2 late :: L) (fun g => l.length - g.i) (⟨0, acNew 1⟩) rfl (Nat.zero_le _) (GivesTo.g) (sub_cons rfl (sub_cons rfl (sub_cons rfl (sub_cons rfl (sub_cons rfl (sub_nil)))))) ?_
  rintro ⟨i, s⟩ hil
  dsimp only at hil ⊢
  refine T_seq ?_
  refine T_region ?_
  refine TL_y rfl rfl (Y_move rfl) ?_
  refine TL_y rfl rfl (Y_move rfl) ?_
  refine TL_y rfl rfl (Y_len rfl) ?_
  refine TL_y rfl rfl (Y_lt rfl rfl) ?_
  refine TL_nil ?_
  refine T_if rfl (fun h36 => ?_) (fun h36 => ?_)
  · refine T_skip ?_
    refine thenS_normal ?_
    refine T_seq ?_
    refine T_block ?_
    obtain ⟨m, hm⟩ : ∃ m, l[i]? = some m := ⟨_, List.getElem?_eq_getElem (by omega)⟩
    have hmb := hb m (List.mem_of_getElem? hm)
    refine T_region_last ?_
    refine TL_y rfl rfl (Y_move rfl) ?_
    refine TL_y rfl rfl (Y_move rfl) ?_
    refine TL_y rfl rfl (Y_move rfl) ?_
    refine TL_index_n rfl rfl rfl (rfl) ((sln (A := A) (c := c))) (hm) ?_
    intro bn42 on42 hA42 hk42
    have hu42 := hm
    refine TL_load_nx rfl rfl hk42 hu42 (fun _ => rfl) ?_
    intro p43 ok43
    simp only [List.cons_append, List.nil_append]
    refine TL_pullk b20 ?_
    refine TL_call rfl rfl (acOn_spec m p43 ok43 ⟨slk, slk, slk, slk⟩ hmb) ?_
    rintro _ _ ⟨q, rfl, rfl⟩
    refine TL_nil ?_
    refine inB_normal ?_
    refine thenS_normal ?_
    refine T_region_last ?_
    refine TL_y rfl rfl (Y_move rfl) ?_
    refine TL_y rfl rfl (Y_add rfl rfl (by omega)) ?_
    refine TL_name 38 (v' := .int .i64 ((i + 1 : Nat) : Int)) rfl (rfl) ?_
    refine TL_y rfl rfl (Y_assign rfl) ?_
    refine TL_nil ?_
    refine thenS_normal ?_
    exact ⟨⟨i + 1, stA s m⟩, (by simp only; omega), by simp only; omega, holds_to (sub_cons rfl (sub_cons rfl (sub_cons rfl (sub_cons rfl (sub_cons rfl (sub_nil)))))) GivesTo.g⟩
  · refine T_exit ?_
    refine thenS_exit ?_
    refine thenS_exit ?_
    refine inB_hit ?_
    refine thenS_normal ?_
    refine T_region ?_
    refine TL_y rfl rfl (Y_move rfl) ?_
    refine TL_y rfl rfl (Y_load_agg rfl rfl) ?_
    refine TL_y rfl rfl (Y_build rfl rfl) ?_
    refine TL_y rfl rfl (Y_build rfl rfl) ?_
    refine TL_pullk b20 ?_
    refine TL_call rfl rfl (acOn_spec (pm b) mP0 (pm_ok h1 h2) (msgK_nil rfl rfl rfl rfl) (show cMsg (pm b) ≤ 140737488355328 from (by decide +kernel : (260 : Nat) ≤ 140737488355328))) ?_
    rintro _ _ ⟨q50, rfl, rfl⟩
    refine TL_y rfl rfl (Y_move rfl) ?_
    refine TL_y rfl rfl (Y_extract rfl rfl) ?_
    refine TL_y rfl rfl (Y_extract rfl rfl) ?_
    refine TL_y rfl rfl (Y_extract rfl rfl) ?_
    refine TL_alloc rfl rfl ?_
    intro b10
    refine TL_store rfl rfl rfl rfl rfl rfl ?_
    refine TL_y rfl rfl (Y_assign rfl) ?_
    refine TL_y rfl rfl (Y_assign rfl) ?_
    refine TL_nil ?_
    refine T_region ?_
    refine TL_y rfl rfl (Y_move rfl) ?_
    refine TL_pullk b20 ?_
    refine TL_call rfl rfl (acPromised_spec) ?_
    rintro _ _ ⟨rfl, rfl⟩
    refine TL_y rfl rfl (Y_move rfl) ?_
    refine TL_pullk b20 ?_
    refine TL_call rfl rfl (acVotes_spec) ?_
    rintro _ _ ⟨A57, c57, rfl, rfl⟩
    refine TL_freeze_osl ?_
    refine TL_alloc rfl rfl ?_
    intro b13
    refine TL_store rfl rfl rfl rfl rfl rfl ?_
    refine TL_y rfl rfl (Y_assign rfl) ?_
    refine TL_nil ?_
    refine T_seq ?_
    refine T_region ?_
    refine TL_y rfl rfl (Y_move rfl) ?_
    refine TL_both 6 64 (False) ?_ ?_
    · refine TL_y rfl rfl (Y_move rfl) ?_
      refine TL_split 59 rfl (fun h59 => ?_) (fun h59 => ?_)
      · refine TL_grun rfl rfl ?_
        refine TL_y rfl rfl (Y_load_agg rfl rfl) ?_
        refine TL_grun rfl rfl ?_
        refine TL_y rfl rfl (Y_load_agg rfl rfl) ?_
        refine TL_grun rfl rfl ?_
        refine TL_call rfl rfl (compare_spec b (stA s (pm b)).prom _) ?_
        rintro _ _ ⟨rfl, rfl⟩
        refine TL_grun rfl rfl ?_
        refine TL_y rfl rfl (Y_gt rfl rfl) ?_
        refine TL_y rfl rfl (Y_pick_t rfl rfl) ?_
        refine TL_chain_end rfl ?_ (by repeat (first | exact sub_refl | refine sub_ext rfl ?_)) GivesTo.g
        exact congrArg Value.bool (decide_eq_decide.2 (iff_of_false (pm_now (of_decide_eq_true h59)) id))
      · refine TL_gskip rfl rfl rfl rfl ?_
        refine TL_gskip rfl rfl rfl rfl ?_
        refine TL_gskip rfl rfl rfl rfl ?_
        refine TL_gskip rfl rfl rfl rfl ?_
        refine TL_y rfl rfl (Y_pick_f rfl rfl) ?_
        refine TL_chain_end rfl ?_ (by repeat (first | exact sub_refl | refine sub_ext rfl ?_)) GivesTo.g
        exact congrArg Value.bool (decide_eq_false (id)).symm
    refine TL_nil ?_
    refine T_if_neg rfl (id) ?_
    refine T_skip ?_
    refine thenS_normal ?_
    refine T_seq ?_
    refine T_region ?_
    refine TL_y rfl rfl (Y_assign rfl) ?_
    refine TL_nil ?_
    refine T_block ?_
    refine T_loopK (σ := Nat) [2, 7, 13, 14] (fun j => j ≤ late.length) (fun j kv => (15, .int .i64 (j : Int)) :: kv) (fun j => ac b20 (stA s (pm b)) :: sl votedR A57 c57 (stA s (pm b)).V :: cells b13 [.int .i64 (stA s (pm b)).prom.1, .int .i64 (stA s (pm b)).prom.2] 40 :: sl msgR A2 c2 late :: L) (fun j => late.length - j) (0) rfl (Nat.zero_le _) (GivesTo.g) (sub_cons rfl (sub_cons rfl (sub_cons rfl (sub_cons rfl (sub_cons rfl (sub_nil)))))) ?_
    intro j hj
    refine T_seq ?_
    refine T_region ?_
    refine TL_y rfl rfl (Y_move rfl) ?_
    refine TL_y rfl rfl (Y_move rfl) ?_
    refine TL_y rfl rfl (Y_len rfl) ?_
    refine TL_y rfl rfl (Y_lt rfl rfl) ?_
    refine TL_nil ?_
    refine T_if rfl (fun h68 => ?_) (fun h68 => ?_)
    · refine T_skip ?_
      refine thenS_normal ?_
      refine T_seq ?_
      refine T_block ?_
      refine T_seq ?_
      obtain ⟨m, hm⟩ : ∃ m, late[j]? = some m := ⟨_, List.getElem?_eq_getElem (by omega)⟩
      have hmb := hb2 m (List.mem_of_getElem? hm)
      refine T_addr_n (sln (A := A2) (c := c2)) hm fun bq oq eq => ?_
      subst eq
      refine T_region_draw _ [0, 0, 3, 7, 15, 0, 63, 127] [] [(0, true), (1, true), (2, true), (3, true), (4, true), (5, true), (6, false), (7, true)] (by kernel_rfl) (by decide +kernel) (Gives.refl _) ?_
      refine TF_y rfl rfl (Y_move rfl) ?_
      refine TF_y rfl rfl (Y_move rfl) ?_
      refine TF_y rfl rfl (Y_index_n (R := msgR) (xs := late) rfl rfl rfl hm) ?_
      refine TF_y rfl rfl (Y_field_addr2 rfl) ?_
      refine TF_y rfl rfl (Y_load_nxa (xs := late) (u := m) (vs := [.int .i64 m.bal.1, .int .i64 m.bal.2]) rfl (sln (c := c2)) hm (fun _ => rfl)) ?_
      refine TF_y rfl rfl (Y_load_agg rfl rfl) ?_
      refine TF_anchor rfl ?_
      refine TL_call rfl rfl (compare_spec m.bal (stA s (pm b)).prom _) ?_
      rintro _ _ ⟨rfl, rfl⟩
      refine TF_end GivesTo.g ?_
      refine TF_y rfl rfl (Y_ge rfl rfl) ?_
      refine TF_nil ?_
      refine T_if rfl (fun h78 => ?_) (fun h78 => ?_)
      · refine T_exit ?_
        refine thenS_exit ?_
        refine inB_hit ?_
        refine thenS_normal ?_
        refine T_region_last ?_
        refine TL_y rfl rfl (Y_move rfl) ?_
        refine TL_y rfl rfl (Y_add rfl rfl (by omega)) ?_
        refine TL_name 70 (v' := .int .i64 ((j + 1 : Nat) : Int)) rfl (rfl) ?_
        refine TL_y rfl rfl (Y_assign rfl) ?_
        refine TL_nil ?_
        refine thenS_normal ?_
        exact ⟨j + 1, (by omega), by omega, holds_to (sub_cons rfl (sub_cons rfl (sub_cons rfl (sub_cons rfl (sub_cons rfl (sub_nil)))))) GivesTo.g⟩
      · refine T_skip ?_
        refine thenS_normal ?_
        refine T_region ?_
        refine TL_y rfl rfl (Y_move rfl) ?_
        refine TL_y rfl rfl (Y_move rfl) ?_
        refine TL_y rfl rfl (Y_move rfl) ?_
        refine TL_index_n rfl rfl rfl (rfl) ((sln (A := some ⟨bq, oq, none⟩) (c := c2))) (hm) ?_
        intro bn83 on83 hA83 hk83
        have hu83 := hm
        refine TL_load_nx rfl rfl hk83 hu83 (fun _ => rfl) ?_
        intro p84 ok84
        simp only [List.cons_append, List.nil_append]
        refine TL_pullk b20 ?_
        refine TL_call rfl rfl (acOn_spec m p84 ok84 ⟨slk, slk, slk, slk⟩ hmb) ?_
        rintro _ _ ⟨q85, rfl, rfl⟩
        refine TL_y rfl rfl (Y_move rfl) ?_
        refine TL_y rfl rfl (Y_extract rfl rfl) ?_
        refine TL_y rfl rfl (Y_extract rfl rfl) ?_
        refine TL_y rfl rfl (Y_extract rfl rfl) ?_
        refine TL_alloc rfl rfl ?_
        intro b16
        refine TL_store rfl rfl rfl rfl rfl rfl ?_
        refine TL_y rfl rfl (Y_assign rfl) ?_
        refine TL_y rfl rfl (Y_assign rfl) ?_
        refine TL_nil ?_
        rcases acLess (s := stA s (pm b)) (m := m) (by omega) with ⟨hw, hr, hs⟩ | ⟨hw, hn, hr, hs, hp⟩
        · refine T_region ?_
          refine TL_y rfl rfl (Y_move rfl) ?_
          refine TL_y rfl rfl (Y_str_ne rfl rfl) ?_
          refine TL_name 90 (v' := .bool false) rfl (congrArg Value.bool (by rw [hr]; decide)) ?_
          refine TL_y rfl rfl (Y_move rfl) ?_
          refine TL_grun rfl rfl ?_
          refine TL_y rfl rfl (Y_move rfl) ?_
          refine TL_name 92 (v' := .bool false) rfl (congrArg Value.bool (decide_eq_false hw)) ?_
          refine TL_grun rfl rfl ?_
          refine TL_y rfl rfl (Y_move rfl) ?_
          refine TL_gskip rfl rfl rfl rfl ?_
          refine TL_gskip rfl rfl rfl rfl ?_
          refine TL_gskip rfl rfl rfl rfl ?_
          refine TL_gskip rfl rfl rfl rfl ?_
          refine TL_gskip_u rfl rfl rfl ?_
          refine TL_gskip_u rfl rfl rfl ?_
          refine TL_gskip_u rfl rfl rfl ?_
          refine TL_gskip_u rfl rfl rfl ?_
          refine TL_gskip rfl rfl rfl rfl ?_
          refine TL_grun rfl rfl ?_
          refine TL_y rfl rfl (Y_pick_f rfl rfl) ?_
          refine TL_y rfl rfl (Y_pick_f rfl rfl) ?_
          refine TL_nil ?_
          refine T_cond_false rfl ?_
          refine T_skip ?_
          refine inB_normal ?_
          refine thenS_normal ?_
          rw [hs]
          refine T_region_last ?_
          refine TL_y rfl rfl (Y_move rfl) ?_
          refine TL_y rfl rfl (Y_add rfl rfl (by omega)) ?_
          refine TL_name 70 (v' := .int .i64 ((j + 1 : Nat) : Int)) rfl (rfl) ?_
          refine TL_y rfl rfl (Y_assign rfl) ?_
          refine TL_nil ?_
          refine thenS_normal ?_
          exact ⟨j + 1, (by omega), by omega, holds_to (sub_cons rfl (sub_cons rfl (sub_cons rfl (sub_cons rfl (sub_cons rfl (sub_nil)))))) GivesTo.g⟩
        · refine T_region ?_
          refine TL_y rfl rfl (Y_move rfl) ?_
          refine TL_y rfl rfl (Y_str_ne rfl rfl) ?_
          refine TL_name 90 (v' := .bool false) rfl (congrArg Value.bool (by rw [hr]; decide)) ?_
          refine TL_y rfl rfl (Y_move rfl) ?_
          refine TL_grun rfl rfl ?_
          refine TL_y rfl rfl (Y_move rfl) ?_
          refine TL_name 92 (v' := .bool true) rfl (congrArg Value.bool (decide_eq_true hw)) ?_
          refine TL_grun rfl rfl ?_
          refine TL_y rfl rfl (Y_move rfl) ?_
          refine TL_grun rfl rfl ?_
          refine TL_y rfl rfl (Y_field_addr rfl) ?_
          refine TL_grun rfl rfl ?_
          refine TL_y rfl rfl (Y_load rfl rfl) ?_
          refine TL_grun rfl rfl ?_
          refine TL_y rfl rfl (Y_ne rfl rfl) ?_
          refine TL_name 96 (v' := .bool false) rfl (congrArg Value.bool (by rw [hp]; rfl)) ?_
          refine TL_grun rfl rfl ?_
          refine TL_y rfl rfl (Y_move rfl) ?_
          refine TL_grun rfl rfl ?_
          refine TL_y rfl rfl (Y_field_addr rfl) ?_
          refine TL_grun rfl rfl ?_
          refine TL_y rfl rfl (Y_load_agg rfl rfl) ?_
          refine TL_grun rfl rfl ?_
          refine TL_y rfl rfl (Y_load_agg rfl rfl) ?_
          refine TL_grun rfl rfl ?_
          refine TL_y rfl rfl (Y_ne_bal (a := (repA (stA s (pm b)) m).bal) (b := (stA s (pm b)).prom) rfl rfl) ?_
          refine TL_name 101 (v' := .bool false) rfl (congrArg Value.bool (pair_ne (by rw [hp]; rfl))) ?_
          refine TL_grun rfl rfl ?_
          refine TL_y rfl rfl (Y_pick_f rfl rfl) ?_
          refine TL_grun rfl rfl ?_
          refine TL_y rfl rfl (Y_pick_t rfl rfl) ?_
          refine TL_y rfl rfl (Y_pick_f rfl rfl) ?_
          refine TL_nil ?_
          refine T_cond_false rfl ?_
          refine T_skip ?_
          refine inB_normal ?_
          refine thenS_normal ?_
          rw [hs]
          refine T_region_last ?_
          refine TL_y rfl rfl (Y_move rfl) ?_
          refine TL_y rfl rfl (Y_add rfl rfl (by omega)) ?_
          refine TL_name 70 (v' := .int .i64 ((j + 1 : Nat) : Int)) rfl (rfl) ?_
          refine TL_y rfl rfl (Y_assign rfl) ?_
          refine TL_nil ?_
          refine thenS_normal ?_
          exact ⟨j + 1, (by omega), by omega, holds_to (sub_cons rfl (sub_cons rfl (sub_cons rfl (sub_cons rfl (sub_cons rfl (sub_nil)))))) GivesTo.g⟩
    · refine T_exit ?_
      refine thenS_exit ?_
      refine thenS_exit ?_
      refine inB_hit ?_
      refine thenS_normal ?_
      refine T_region_draw _ [0, 1, 0, 7, 15, 31, 63, 31, 255, 511, 1023] [] [(0, true), (2, true), (1, false), (3, true), (4, true), (5, true), (7, true), (6, false), (8, false), (9, true), (10, true)] (by kernel_rfl) (by decide +kernel) (Gives.refl _) ?_
      refine TF_y rfl rfl (Y_move rfl) ?_
      refine TF_y rfl rfl (Y_load_agg rfl rfl) ?_
      refine TF_anchor rfl ?_
      refine TL_pullk b20 ?_
      refine TL_call rfl rfl (acPromised_spec) ?_
      rintro _ _ ⟨rfl, rfl⟩
      refine TF_end GivesTo.g ?_
      refine TF_y rfl rfl (Y_eq_bal rfl rfl) ?_
      refine TF_name 108 (v' := .bool true) rfl (congrArg Value.bool (decide_eq_true rfl)) ?_
      refine TF_y rfl rfl (Y_move rfl) ?_
      refine TF_gy rfl rfl rfl rfl (Y_move rfl) ?_
      refine TF_gy rfl rfl rfl rfl (Y_move rfl) ?_
      refine TF_anchor rfl ?_
      refine TL_grun rfl rfl ?_
      refine TL_pullk b20 ?_
      refine TL_call rfl rfl (acVotes_spec) ?_
      rintro _ _ ⟨A111, c111, rfl, rfl⟩
      refine TL_freeze_osl ?_
      refine TF_end GivesTo.g ?_
      refine TF_anchor rfl ?_
      refine TL_grun rfl rfl ?_
      refine TL_call rfl rfl (sameVoted_spec (slk (A := A111) (c := c111)) (slk (A := A57) (c := c57))) ?_
      rintro _ _ ⟨rfl, rfl⟩
      refine TL_name 113 (v' := .bool true) rfl (congrArg Value.bool (by simp)) ?_
      refine TF_end GivesTo.g ?_
      refine TF_y rfl rfl (Y_pick_t rfl rfl) ?_
      refine TF_y rfl rfl (Y_assign rfl) ?_
      refine TF_nil ?_
      refine T_ret ?_
      exact RetG_1 (.inl rfl) rfl (ResV.tmp rfl) GivesTo.g (⟨rfl, rfl⟩)
end Go.SL
set_option linter.unusedVariables false
set_option linter.unusedSimpArgs false
namespace Go.SL
open Go Go.Proofs
theorem acJudge_nil {L : List HP} (m : MsgD) (p : MsgP) (hx : MsgOk m) (hk : MsgK L m p) (hc : cMsg m ≤ 140737488355328) : Fn Try.prog 62 #[.pointer none, .agg (List.toArray (msgC m p))] L (fun v L' => v = .agg #[.string ⟨#[]⟩, .bool false, .bool false] ∧ L' = L) := by
  refine Fn_enter Try.func62 rfl rfl rfl rfl ?_
  refine T_region ?_
  refine TL_box rfl rfl rfl ?_
  intro b3
  refine TL_alloc rfl rfl ?_
  intro b4
  refine TL_nil ?_
  refine T_region ?_
  refine TL_y rfl rfl (Y_load_agg rfl rfl) ?_
  refine TL_call rfl rfl (msg_spec m p hx hk.tail.tail hc) ?_
  rintro _ _ ⟨A16, c16, rfl, rfl⟩
  refine TL_y rfl rfl (Y_move rfl) ?_
  refine TL_y rfl rfl (Y_extract rfl rfl) ?_
  refine TL_y rfl rfl (Y_extract rfl rfl) ?_
  refine TL_y rfl rfl (Y_assign rfl) ?_
  refine TL_y rfl rfl (Y_assign rfl) ?_
  refine TL_nil ?_
  refine T_seq ?_
  refine T_region_draw _ [0, 1, 3, 7, 15, 31, 63, 127, 255, 511, 255, 1279, 3327, 7423, 16383, 32767, 65535, 131071, 262143, 524287, 1048575, 2097151, 4194303, 8388607, 16777215, 33554431] [] [(0, true), (1, false), (2, true), (3, true), (4, true), (5, true), (6, true), (7, true), (8, true), (9, true), (10, true), (11, true), (12, true), (13, true), (14, true), (15, true), (16, true), (17, true), (18, true), (19, true), (20, true), (21, true), (22, true), (23, true), (24, true), (25, true)] (by kernel_rfl) (by decide +kernel) (Gives.refl _) ?_
  refine TF_y rfl rfl (Y_move rfl) ?_
  refine TF_anchor rfl ?_
  refine TL_call rfl rfl (acMade_nil _) ?_
  rintro _ _ ⟨rfl, rfl⟩
  refine TL_name 20 (v' := .bool false) rfl (rfl) ?_
  refine TF_end GivesTo.g ?_
  refine TF_y rfl rfl (Y_not_f rfl) ?_
  refine TF_y rfl rfl (Y_move rfl) ?_
  refine TF_gskip rfl rfl rfl rfl rfl ?_
  refine TF_gskip rfl rfl rfl rfl rfl ?_
  refine TF_y rfl rfl (Y_pick_t rfl rfl) ?_
  refine TF_y rfl rfl (Y_move rfl) ?_
  refine TF_gskip rfl rfl rfl rfl rfl ?_
  refine TF_gskip rfl rfl rfl rfl rfl ?_
  refine TF_gskip rfl rfl rfl rfl rfl ?_
  refine TF_gskip rfl rfl rfl rfl rfl ?_
  refine TF_gskip rfl rfl rfl rfl rfl ?_
  refine TF_gskip rfl rfl rfl rfl rfl ?_
  refine TF_gskip rfl rfl rfl rfl rfl ?_
  refine TF_y rfl rfl (Y_pick_t rfl rfl) ?_
  refine TF_y rfl rfl (Y_move rfl) ?_
  refine TF_gskip rfl rfl rfl rfl rfl ?_
  refine TF_gskip rfl rfl rfl rfl rfl ?_
  refine TF_gskip rfl rfl rfl rfl rfl ?_
  refine TF_gskip rfl rfl rfl rfl rfl ?_
  refine TF_gskip_u rfl rfl rfl rfl ?_
  refine TF_gskip_u rfl rfl rfl rfl ?_
  refine TF_gskip_u rfl rfl rfl rfl ?_
  refine TF_gskip rfl rfl rfl rfl rfl ?_
  refine TF_y rfl rfl (Y_pick_t rfl rfl) ?_
  refine TF_nil ?_
  refine T_cond_true rfl ?_
  refine T_region ?_
  refine TL_y rfl rfl (Y_build rfl rfl) ?_
  refine TL_store rfl rfl rfl rfl rfl rfl ?_
  refine TL_nil ?_
  refine T_ret ?_
  refine thenS_ret ?_
  exact RetG_1 (.inl rfl) rfl (ResV.agg rfl rfl) GivesTo.g (⟨rfl, rfl⟩)
theorem acWould_nil {L : List HP} (m : MsgD) (p : MsgP) (hx : MsgOk m) (hk : MsgK L m p) (hc : cMsg m ≤ 140737488355328) : Fn Try.prog 28 #[.pointer none, .agg (List.toArray (msgC m p))] L (fun v L' => v = .tuple #[.string ⟨#[]⟩, .bool false] ∧ L' = L) := by
  refine Fn_enter Try.func28 rfl rfl rfl rfl ?_
  refine T_region ?_
  refine TL_box rfl rfl rfl ?_
  intro b3
  refine TL_y rfl rfl (Y_assign rfl) ?_
  refine TL_y rfl rfl (Y_assign rfl) ?_
  refine TL_nil ?_
  refine T_region ?_
  refine TL_y rfl rfl (Y_move rfl) ?_
  refine TL_y rfl rfl (Y_load_agg rfl rfl) ?_
  refine TL_call rfl rfl (acJudge_nil m p hx hk.tail hc) ?_
  rintro _ _ ⟨rfl, rfl⟩
  refine TL_alloc rfl rfl ?_
  intro b6
  refine TL_store rfl rfl rfl rfl rfl rfl ?_
  refine TL_nil ?_
  refine T_region_draw _ [0, 1, 0, 4, 3, 31] [] [(0, true), (1, true), (2, true), (3, true), (4, true), (5, true)] (by kernel_rfl) (by decide +kernel) (Gives.refl _) ?_
  refine TF_y rfl rfl (Y_field_addr rfl) ?_
  refine TF_y rfl rfl (Y_load rfl rfl) ?_
  refine TF_y rfl rfl (Y_field_addr rfl) ?_
  refine TF_y rfl rfl (Y_load rfl rfl) ?_
  refine TF_y rfl rfl (Y_assign rfl) ?_
  refine TF_y rfl rfl (Y_assign rfl) ?_
  refine TF_nil ?_
  refine T_ret ?_
  exact RetG_2 (.inl rfl) rfl (ResV.tmp rfl) (ResV.tmp rfl) GivesTo.g (⟨rfl, rfl⟩)
theorem acOn_nil {L : List HP} (m : MsgD) (p : MsgP) (hx : MsgOk m) (hk : MsgK L m p) (hc : cMsg m ≤ 140737488355328) : Fn Try.prog 23 #[.pointer none, .agg (List.toArray (msgC m p))] L (fun v L' => v = .tuple #[msgV msg0 mP0, .string ⟨#[]⟩, .bool false] ∧ L' = L) := by
  refine Fn_enter Try.func23 rfl rfl rfl rfl ?_
  refine T_region ?_
  refine TL_box rfl rfl rfl ?_
  intro b3
  refine TL_alloc rfl rfl ?_
  intro b4
  refine TL_y rfl rfl (Y_assign rfl) ?_
  refine TL_y rfl rfl (Y_assign rfl) ?_
  refine TL_nil ?_
  refine T_region ?_
  refine TL_y rfl rfl (Y_move rfl) ?_
  refine TL_y rfl rfl (Y_load_agg rfl rfl) ?_
  refine TL_call rfl rfl (acJudge_nil m p hx hk.tail.tail hc) ?_
  rintro _ _ ⟨rfl, rfl⟩
  refine TL_alloc rfl rfl ?_
  intro b7
  refine TL_store rfl rfl rfl rfl rfl rfl ?_
  refine TL_nil ?_
  refine T_seq ?_
  refine T_region ?_
  refine TL_y rfl rfl (Y_field_addr rfl) ?_
  refine TL_y rfl rfl (Y_load rfl rfl) ?_
  refine TL_name 13 (v' := .bool false) rfl (rfl) ?_
  refine TL_y rfl rfl (Y_not_f rfl) ?_
  refine TL_nil ?_
  refine T_cond_true rfl ?_
  refine T_region ?_
  refine TL_y rfl rfl (Y_build rfl rfl) ?_
  refine TL_store rfl rfl rfl rfl rfl rfl ?_
  refine TL_y rfl rfl (Y_assign rfl) ?_
  refine TL_y rfl rfl (Y_assign rfl) ?_
  refine TL_nil ?_
  refine T_ret ?_
  refine thenS_ret ?_
  exact RetG_3 (.inl rfl) rfl (ResV.agg rfl rfl) (ResV.tmp rfl) (ResV.tmp rfl) GivesTo.g (⟨rfl, rfl⟩)
theorem acDrop_nil {L : List HP} (n : Int) : Fn Try.prog 32 #[.pointer none, .int .i64 n] L (fun v L' => v = .tuple #[] ∧ L' = L) := by
  refine Fn_enter Try.func32 rfl rfl rfl rfl ?_
  refine T_region ?_
  refine TL_box rfl rfl rfl ?_
  intro b3
  refine TL_nil ?_
  refine T_region ?_
  refine TL_y rfl rfl (Y_move rfl) ?_
  refine TL_call rfl rfl (acMade_nil _) ?_
  rintro _ _ ⟨rfl, rfl⟩
  refine TL_name 5 (v' := .bool false) rfl (rfl) ?_
  refine TL_nil ?_
  refine T_cond_false rfl ?_
  refine T_skip ?_
  exact RetG_0 (.inr rfl) rfl GivesTo.g (⟨rfl, rfl⟩)
theorem acFork_nil (L : List HP) : Fn Try.prog 31 #[.pointer none] L (fun v L' => v = .pointer none ∧ L' = L) := by
  refine Fn_enter Try.func31 rfl rfl rfl rfl ?_
  refine T_region ?_
  refine TL_y rfl rfl (Y_assign rfl) ?_
  refine TL_nil ?_
  refine T_seq ?_
  refine T_region ?_
  refine TL_y rfl rfl (Y_move rfl) ?_
  refine TL_call rfl rfl (acMade_nil _) ?_
  rintro _ _ ⟨rfl, rfl⟩
  refine TL_name 4 (v' := .bool false) rfl (rfl) ?_
  refine TL_y rfl rfl (Y_not_f rfl) ?_
  refine TL_nil ?_
  refine T_cond_true rfl ?_
  refine T_region ?_
  refine TL_y rfl rfl (Y_assign rfl) ?_
  refine TL_nil ?_
  refine T_ret ?_
  refine thenS_ret ?_
  exact RetG_1 (.inl rfl) rfl (ResV.tmp rfl) GivesTo.g (⟨rfl, rfl⟩)
theorem acReplay_nil (L : List HP) (x : ByteArray) : Fn Try.prog 35 #[.pointer none, .string x] L (fun v L' => v = .int .i64 6 ∧ L' = L) := by
  refine Fn_enter Try.func35 rfl rfl rfl rfl ?_
  refine T_region ?_
  refine TL_y rfl rfl (Y_assign rfl) ?_
  refine TL_nil ?_
  refine T_seq ?_
  refine T_region ?_
  refine TL_y rfl rfl (Y_move rfl) ?_
  refine TL_call rfl rfl (acMade_nil _) ?_
  rintro _ _ ⟨rfl, rfl⟩
  refine TL_name 9 (v' := .bool false) rfl (rfl) ?_
  refine TL_y rfl rfl (Y_not_f rfl) ?_
  refine TL_nil ?_
  refine T_cond_true rfl ?_
  refine T_region ?_
  refine TL_y rfl rfl (Y_assign rfl) ?_
  refine TL_nil ?_
  refine T_ret ?_
  refine thenS_ret ?_
  exact RetG_1 (.inl rfl) rfl (ResV.tmp rfl) GivesTo.g (⟨rfl, rfl⟩)
theorem acceptorNobody_walk {L : List HP} (m : MsgD) (p : MsgP) (n : Int) (hx : MsgOk m) (hk : MsgK L m p) (hc : cMsg m ≤ 140737488355328) : Fn Try.prog 8 #[msgV m p, .int .i64 n] L (fun v L' => v = .bool true ∧ L' = L) := by
  refine Fn_enter Try.func8 rfl rfl rfl rfl ?_
  refine T_region ?_
  refine TL_box rfl rfl rfl ?_
  intro b2
  refine TL_y rfl rfl (Y_assign rfl) ?_
  refine TL_nil ?_
  refine T_region ?_
  refine TL_y rfl rfl (Y_assign rfl) ?_
  refine TL_nil ?_
  refine T_region ?_
  refine TL_y rfl rfl (Y_move rfl) ?_
  refine TL_y rfl rfl (Y_load_agg rfl rfl) ?_
  refine TL_call rfl rfl (acOn_nil m p hx hk.tail hc) ?_
  rintro _ _ ⟨rfl, rfl⟩
  refine TL_y rfl rfl (Y_move rfl) ?_
  refine TL_y rfl rfl (Y_extract rfl rfl) ?_
  refine TL_y rfl rfl (Y_extract rfl rfl) ?_
  refine TL_y rfl rfl (Y_extract rfl rfl) ?_
  refine TL_alloc rfl rfl ?_
  intro b6
  refine TL_store rfl rfl rfl rfl rfl rfl ?_
  refine TL_y rfl rfl (Y_assign rfl) ?_
  refine TL_y rfl rfl (Y_assign rfl) ?_
  refine TL_nil ?_
  refine T_region ?_
  refine TL_y rfl rfl (Y_move rfl) ?_
  refine TL_y rfl rfl (Y_load_agg rfl rfl) ?_
  refine TL_call rfl rfl (acWould_nil m p hx hk.tail.tail hc) ?_
  rintro _ _ ⟨rfl, rfl⟩
  refine TL_y rfl rfl (Y_move rfl) ?_
  refine TL_y rfl rfl (Y_extract rfl rfl) ?_
  refine TL_y rfl rfl (Y_extract rfl rfl) ?_
  refine TL_y rfl rfl (Y_assign rfl) ?_
  refine TL_y rfl rfl (Y_assign rfl) ?_
  refine TL_nil ?_
  refine T_region ?_
  refine TL_y rfl rfl (Y_move rfl) ?_
  refine TL_y rfl rfl (Y_move rfl) ?_
  refine TL_call rfl rfl (acDrop_nil n) ?_
  rintro _ _ ⟨rfl, rfl⟩
  refine TL_nil ?_
  refine T_region ?_
  refine TL_call rfl rfl (lives16_spec _) ?_
  rintro _ _ ⟨rfl, rfl⟩
  refine TL_name 27 (v' := .bool true) rfl (rfl) ?_
  refine TL_y rfl rfl (Y_move rfl) ?_
  refine TL_grun rfl rfl ?_
  refine TL_y rfl rfl (Y_load_agg rfl rfl) ?_
  refine TL_grun rfl rfl ?_
  refine TL_y rfl rfl (Y_build rfl rfl) ?_
  refine TL_grun rfl rfl ?_
  refine TL_call rfl rfl (sameMsg_spec msg0 msg0 mP0 mP0 (msgK_nil rfl rfl rfl rfl) (msgK_nil rfl rfl rfl rfl)) ?_
  rintro _ _ ⟨rfl, rfl⟩
  refine TL_name 31 (v' := .bool true) rfl (by simp) ?_
  refine TL_y rfl rfl (Y_pick_t rfl rfl) ?_
  refine TL_y rfl rfl (Y_move rfl) ?_
  refine TL_grun rfl rfl ?_
  refine TL_y rfl rfl (Y_move rfl) ?_
  refine TL_grun rfl rfl ?_
  refine TL_y rfl rfl (Y_str_eq rfl rfl) ?_
  refine TL_name 35 (v' := .bool true) rfl (congrArg Value.bool (decide_eq_true rfl)) ?_
  refine TL_y rfl rfl (Y_pick_t rfl rfl) ?_
  refine TL_y rfl rfl (Y_move rfl) ?_
  refine TL_grun rfl rfl ?_
  refine TL_y rfl rfl (Y_move rfl) ?_
  refine TL_grun rfl rfl ?_
  refine TL_y rfl rfl (Y_not rfl) ?_
  refine TL_name 39 (v' := .bool true) rfl (rfl) ?_
  refine TL_y rfl rfl (Y_pick_t rfl rfl) ?_
  refine TL_y rfl rfl (Y_move rfl) ?_
  refine TL_grun rfl rfl ?_
  refine TL_y rfl rfl (Y_move rfl) ?_
  refine TL_grun rfl rfl ?_
  refine TL_y rfl rfl (Y_str_eq rfl rfl) ?_
  refine TL_name 43 (v' := .bool true) rfl (congrArg Value.bool (decide_eq_true rfl)) ?_
  refine TL_y rfl rfl (Y_pick_t rfl rfl) ?_
  refine TL_y rfl rfl (Y_move rfl) ?_
  refine TL_grun rfl rfl ?_
  refine TL_y rfl rfl (Y_move rfl) ?_
  refine TL_grun rfl rfl ?_
  refine TL_y rfl rfl (Y_not rfl) ?_
  refine TL_name 47 (v' := .bool true) rfl (rfl) ?_
  refine TL_y rfl rfl (Y_pick_t rfl rfl) ?_
  refine TL_y rfl rfl (Y_move rfl) ?_
  refine TL_grun rfl rfl ?_
  refine TL_y rfl rfl (Y_move rfl) ?_
  refine TL_grun rfl rfl ?_
  refine TL_y rfl rfl (Y_move rfl) ?_
  refine TL_grun rfl rfl ?_
  refine TL_call rfl rfl (acReplay_nil _ _) ?_
  rintro _ _ ⟨rfl, rfl⟩
  refine TL_grun rfl rfl ?_
  refine TL_y rfl rfl (Y_eq rfl rfl) ?_
  refine TL_name 53 (v' := .bool true) rfl (congrArg Value.bool (decide_eq_true rfl)) ?_
  refine TL_y rfl rfl (Y_pick_t rfl rfl) ?_
  refine TL_y rfl rfl (Y_move rfl) ?_
  refine TL_grun rfl rfl ?_
  refine TL_y rfl rfl (Y_move rfl) ?_
  refine TL_grun rfl rfl ?_
  refine TL_call rfl rfl (acPromised_nil _) ?_
  rintro _ _ ⟨rfl, rfl⟩
  refine TL_grun rfl rfl ?_
  refine TL_y rfl rfl (Y_build rfl rfl) ?_
  refine TL_grun rfl rfl ?_
  refine TL_y rfl rfl (Y_eq_bal (a := (0, 0)) (b := (0, 0)) rfl rfl) ?_
  refine TL_name 59 (v' := .bool true) rfl (congrArg Value.bool (decide_eq_true rfl)) ?_
  refine TL_y rfl rfl (Y_pick_t rfl rfl) ?_
  refine TL_y rfl rfl (Y_move rfl) ?_
  refine TL_grun rfl rfl ?_
  refine TL_y rfl rfl (Y_move rfl) ?_
  refine TL_grun rfl rfl ?_
  refine TL_call rfl rfl (acVotes_nil _) ?_
  rintro _ _ ⟨rfl, rfl⟩
  refine TL_grun rfl rfl ?_
  refine TL_y rfl rfl (Y_len rfl) ?_
  refine TL_grun rfl rfl ?_
  refine TL_y rfl rfl (Y_eq rfl rfl) ?_
  refine TL_name 65 (v' := .bool true) rfl (congrArg Value.bool (decide_eq_true rfl)) ?_
  refine TL_y rfl rfl (Y_pick_t rfl rfl) ?_
  refine TL_y rfl rfl (Y_move rfl) ?_
  refine TL_grun rfl rfl ?_
  refine TL_y rfl rfl (Y_move rfl) ?_
  refine TL_grun rfl rfl ?_
  refine TL_call rfl rfl (acFork_nil _) ?_
  rintro _ _ ⟨rfl, rfl⟩
  refine TL_grun rfl rfl ?_
  refine TL_y rfl rfl (Y_equal rfl rfl (EqIs.ptr_nil)) ?_
  refine TL_name 70 (v' := .bool true) rfl (by simp) ?_
  refine TL_y rfl rfl (Y_pick_t rfl rfl) ?_
  refine TL_y rfl rfl (Y_assign rfl) ?_
  refine TL_nil ?_
  refine T_ret ?_
  exact RetG_1 (.inl rfl) rfl (ResV.tmp rfl) GivesTo.g (⟨rfl, rfl⟩)
end Go.SL
set_option linter.unusedVariables false
set_option linter.unusedSimpArgs false
namespace Go.SL
open Go Go.Proofs
structure LpSt1 where
  i : Nat
  A : Option Addr
  c : Nat
end Go.SL
set_option linter.unusedVariables false
set_option linter.unusedSimpArgs false
namespace Go.SL
open Go Go.Proofs
/-- What is written ahead of the votes. -/
def bHead (m : MsgD) : List Int := bNum m.kind ++ bNum m.frm ++ bNum m.to_ ++ bBal m.bal ++ bNum m.slot ++ bEntry m.en ++ bNum (m.voted.length : Int)
end Go.SL
set_option linter.unusedVariables false
set_option linter.unusedSimpArgs false
namespace Go.SL
open Go Go.Proofs
theorem readMsg3_spec {L : List HP} {A : Option Addr} {c : Nat} {bs : List Int} (hk : SlK L (intR .u8) A c bs) (hb : bs.length ≤ 140737488355328) : Fn Try.prog 75 #[.slice A bs.length c] L (fun v L' => ∃ m p e, v = .tuple #[msgV m p, .int .i64 e] ∧ L' = mL m p L ∧ MsgOk m ∧ MsgRes bs m e ∧ (e = 10 → m = msg0)) := by
  refine Fn_enter Try.func75 rfl rfl rfl rfl ?_
  refine T_gives hk.lay ?_
  refine T_region ?_
  refine TL_alloc rfl rfl ?_
  intro b2
  refine TL_y rfl rfl (Y_assign rfl) ?_
  refine TL_nil ?_
  refine T_region ?_
  refine TL_y rfl rfl (Y_move rfl) ?_
  refine TL_y rfl rfl (Y_build rfl rfl) ?_
  refine TL_box rfl rfl rfl ?_
  intro b8
  refine TL_y rfl rfl (Y_assign rfl) ?_
  refine TL_nil ?_
  refine T_region ?_
  refine TL_y rfl rfl (Y_move rfl) ?_
  refine TL_gives (rdr_close b8 (rs0 bs) (SlK.tail slk)) ?_
  refine TL_call rfl rfl (rmsg_spec (by show 0 + bs.length ≤ _; omega)) ?_
  rintro _ _ ⟨x, p, s1, rfl, rfl, h⟩
  refine TL_alloc rfl rfl ?_
  intro b5
  refine TL_store rfl rfl rfl rfl rfl rfl ?_
  refine TL_nil ?_
  refine T_seq ?_
  refine T_pullk b8 ?_
  refine T_rdr fun Ar cr => ?_
  refine T_region ?_
  refine TL_y rfl rfl (Y_move rfl) ?_
  refine TL_y rfl rfl (Y_nil_check rfl) ?_
  refine TL_y rfl rfl (Y_field_addr rfl) ?_
  refine TL_y rfl rfl (Y_load rfl rfl) ?_
  refine TL_y rfl rfl (Y_move rfl) ?_
  refine TL_split 15 rfl (fun h15 => ?_) (fun h15 => ?_)
  · refine TL_gskip rfl rfl rfl rfl ?_
    refine TL_gskip rfl rfl rfl rfl ?_
    refine TL_gskip rfl rfl rfl rfl ?_
    refine TL_gskip rfl rfl rfl rfl ?_
    refine TL_gskip rfl rfl rfl rfl ?_
    refine TL_gskip rfl rfl rfl rfl ?_
    refine TL_y rfl rfl (Y_pick_t rfl rfl) ?_
    refine TL_y rfl rfl (Y_move rfl) ?_
    refine TL_gskip rfl rfl rfl rfl ?_
    refine TL_gskip rfl rfl rfl rfl ?_
    refine TL_gskip rfl rfl rfl rfl ?_
    refine TL_y rfl rfl (Y_pick_t rfl rfl) ?_
    refine TL_nil ?_
    refine T_cond_true rfl ?_
    refine T_region ?_
    refine TL_y rfl rfl (Y_build rfl rfl) ?_
    refine TL_store rfl rfl rfl rfl rfl rfl ?_
    refine TL_y rfl rfl (Y_assign rfl) ?_
    refine TL_nil ?_
    refine T_ret ?_
    refine thenS_ret ?_
    have hres : MsgRes bs msg0 10 := ⟨x, s1, h, .inr ⟨rfl, .inl h15⟩⟩
    refine RetQ.gives (mL_nil (m := msg0) rfl rfl rfl rfl) ?_
    exact RetG_2 (.inl rfl) rfl (ResV.agg rfl rfl) (ResV.tmp rfl) GivesTo.g (⟨msg0, mP0, 10, rfl, rfl, msg0_ok, hres, fun _ => rfl⟩)
  · refine TL_grun rfl rfl ?_
    refine TL_y rfl rfl (Y_move rfl) ?_
    refine TL_grun rfl rfl ?_
    refine TL_y rfl rfl (Y_nil_check rfl) ?_
    refine TL_grun rfl rfl ?_
    refine TL_y rfl rfl (Y_field_addr rfl) ?_
    refine TL_grun rfl rfl ?_
    refine TL_y rfl rfl (Y_load rfl rfl) ?_
    refine TL_grun rfl rfl ?_
    refine TL_y rfl rfl (Y_len rfl) ?_
    refine TL_grun rfl rfl ?_
    refine TL_y rfl rfl (Y_gt rfl rfl) ?_
    refine TL_y rfl rfl (Y_pick_f rfl rfl) ?_
    refine TL_y rfl rfl (Y_move rfl) ?_
    refine TL_splitd 23 rfl (fun h23 => ?_) (fun h23 => ?_)
    · refine TL_gskip rfl rfl rfl rfl ?_
      refine TL_gskip rfl rfl rfl rfl ?_
      refine TL_gskip rfl rfl rfl rfl ?_
      refine TL_y rfl rfl (Y_pick_t rfl rfl) ?_
      refine TL_nil ?_
      refine T_cond_true rfl ?_
      refine T_region ?_
      refine TL_y rfl rfl (Y_build rfl rfl) ?_
      refine TL_store rfl rfl rfl rfl rfl rfl ?_
      refine TL_y rfl rfl (Y_assign rfl) ?_
      refine TL_nil ?_
      refine T_ret ?_
      refine thenS_ret ?_
      have hres : MsgRes bs msg0 10 := ⟨x, s1, h, .inr ⟨rfl, .inr (.inl (by intro e; rw [e] at h23; simp at h23))⟩⟩
      refine RetQ.gives (mL_nil (m := msg0) rfl rfl rfl rfl) ?_
      exact RetG_2 (.inl rfl) rfl (ResV.agg rfl rfl) (ResV.tmp rfl) GivesTo.g (⟨msg0, mP0, 10, rfl, rfl, msg0_ok, hres, fun _ => rfl⟩)
    · refine TL_grun rfl rfl ?_
      refine TL_y rfl rfl (Y_move rfl) ?_
      refine TL_grun rfl rfl ?_
      refine TL_y rfl rfl (Y_len rfl) ?_
      refine TL_grun rfl rfl ?_
      refine TL_y rfl rfl (Y_gt rfl rfl) ?_
      refine TL_y rfl rfl (Y_pick_f rfl rfl) ?_
      refine TL_nil ?_
      refine T_if rfl (fun h27 => ?_) (fun h27 => ?_)
      · refine T_region ?_
        refine TL_y rfl rfl (Y_build rfl rfl) ?_
        refine TL_store rfl rfl rfl rfl rfl rfl ?_
        refine TL_y rfl rfl (Y_assign rfl) ?_
        refine TL_nil ?_
        refine T_ret ?_
        refine thenS_ret ?_
        have hres : MsgRes bs msg0 10 := ⟨x, s1, h, .inr ⟨rfl, .inr (.inr (by omega))⟩⟩
        refine RetQ.gives (mL_nil (m := msg0) rfl rfl rfl rfl) ?_
        exact RetG_2 (.inl rfl) rfl (ResV.agg rfl rfl) (ResV.tmp rfl) GivesTo.g (⟨msg0, mP0, 10, rfl, rfl, msg0_ok, hres, fun _ => rfl⟩)
      · refine T_skip ?_
        refine thenS_normal ?_
        refine T_region ?_
        refine TL_y rfl rfl (Y_load_agg rfl rfl) ?_
        refine TL_store rfl rfl rfl rfl rfl rfl ?_
        refine TL_y rfl rfl (Y_assign rfl) ?_
        refine TL_nil ?_
        refine T_ret ?_
        exact RetG_2 (.inl rfl) rfl (ResV.agg rfl rfl) (ResV.tmp rfl) GivesTo.g (⟨x, p, 0, rfl, rfl, h.iv, ⟨x, s1, h, .inl ⟨rfl, rfl, h15, List.eq_nil_of_length_eq_zero (by omega), by omega⟩⟩, fun e => absurd e (by decide)⟩)
/-! ### How much a right message writes -/
theorem name_32 {s : ByteArray} (h : isName s) : s.size ≤ 32 := by unfold isName at h; omega
theorem cSeal_r {x : OrderD} (h : rSeal x) : cSeal x ≤ 194 := by
  have h1 := name_32 h.1
  have h2 := name_32 h.2.1
  have h3 := h.2.2.2.2.1
  unfold cSeal; omega
theorem cEntry_r {e : EntryD} (h : rEntry e) : cSeal e.order ≤ 194 := by
  unfold rEntry at h
  split at h
  · unfold someSeal at h
    simp only [Bool.or_eq_false_iff, decide_eq_false_iff_not, ne_eq, Classical.not_not] at h
    obtain ⟨⟨⟨h1, h2⟩, _⟩, h4⟩ := h
    have e1 : e.order.token.size = 0 := by rw [h1]; rfl
    have e2 : e.order.cart.size = 0 := by rw [h2]; rfl
    unfold cSeal; omega
  · exact cSeal_r h
theorem sum_bound {α : Type} {μ : α → Nat} {k : Nat} : ∀ {l : List α}, (∀ x ∈ l, μ x ≤ k) → (l.map μ).sum ≤ k * l.length
  | [], _ => by simp
  | x :: l, h => by
    have h1 := h x List.mem_cons_self
    have h2 := sum_bound fun y hy => h y (List.mem_cons_of_mem _ hy)
    rw [List.map_cons, List.sum_cons, List.length_cons, Nat.mul_add]; omega
theorem cMsg_r {m : MsgD} (h : rMsg m) : cMsg m ≤ 140737488355328 := by
  obtain ⟨_, _, _, _, _, h6, ⟨h7, h8⟩, h9, ⟨h10, h11⟩, _⟩ := h
  have e1 := cEntry_r h6
  have e2 : cVoteds m.voted ≤ 244 * m.voted.length := sum_bound fun v hv => by
    have := cEntry_r (h8 v hv).2.2
    unfold cVoted; omega
  have e3 : cEvents m.events ≤ 300 * m.events.length := sum_bound fun v hv => by
    obtain ⟨_, _, q3, q4, _, q6, _⟩ := h11 v hv
    have a1 := name_32 q4
    have a2 := name_32 q6
    have a3 := q3.2.1
    unfold cEvent; omega
  have e4 := h9.2.1
  unfold cMsg; omega
theorem cMsg_0 : cMsg msg0 ≤ 140737488355328 := by decide +kernel
/-! ### What a record tells -/
open Classical in
noncomputable def decM (x : ByteArray) : Option MsgD := if h : ∃ m, rMsg m ∧ strBytes x = bMsg m ∧ (strBytes x).length ≤ 65536 then some h.choose else none
theorem bMsg_inj {m y : MsgD} (h1 : rMsg m) (h2 : rMsg y) (e : bMsg m = bMsg y) : m = y := (pf_msg m y [] [] h1 h2 (by rw [e])).1
theorem decM_some {x : ByteArray} {m : MsgD} (h1 : rMsg m) (h2 : strBytes x = bMsg m) (h3 : (strBytes x).length ≤ 65536) : decM x = some m := by
  unfold decM
  have h : ∃ m, rMsg m ∧ strBytes x = bMsg m ∧ (strBytes x).length ≤ 65536 := ⟨m, h1, h2, h3⟩
  rw [dif_pos h]
  exact congrArg some (bMsg_inj h.choose_spec.1 h1 (h.choose_spec.2.1.symm.trans h2))
theorem decM_none {x : ByteArray} (h : ¬ ∃ m, rMsg m ∧ strBytes x = bMsg m ∧ (strBytes x).length ≤ 65536) : decM x = none := by unfold decM; rw [dif_neg h]
theorem dec_res {x : ByteArray} {m : MsgD} {e : Int} (h : MsgRes (strBytes x) m e) (h0 : e = 10 → m = msg0) : (e = 0 ∧ rMsg m ∧ decM x = some m ∧ (strBytes x).length ≤ 65536 ∧ strBytes x = bMsg m) ∨ (e = 10 ∧ m = msg0 ∧ decM x = none) := by
  obtain ⟨y, s', h1, h2⟩ := h
  rcases h2 with ⟨k1, k2, k3, k4, k5⟩ | ⟨k1, k2⟩
  · obtain ⟨_, a2, a3⟩ := h1.snd k3
    rw [k4, List.append_nil] at a3
    subst k2
    exact .inl ⟨k1, a2, decM_some a2 a3 k5, k5, a3⟩
  · refine .inr ⟨k1, h0 k1, decM_none ?_⟩
    rintro ⟨z, z1, z2, z3⟩
    have g := h1.cmp z [] rfl z1 (by rw [List.append_nil]; exact z2)
    obtain ⟨_, a2, a3⟩ := h1.snd g
    obtain ⟨e1, e2⟩ := pf_msg z y [] s'.b z1 a2 (by rw [List.append_nil]; exact z2.symm.trans a3)
    rcases k2 with k | k | k
    · rw [g] at k; cases k
    · exact k e2.symm
    · omega
noncomputable def replE (s : AccD) (x : ByteArray) : Int := match decM x with
  | some m => if mineA s m ∧ ¬ nackA s m then 0 else 10
  | none => 10
noncomputable def replS (s : AccD) (x : ByteArray) : AccD := match decM x with
  | some m => stA s m
  | none => s
theorem stA_same {s : AccD} {m : MsgD} (h : ¬ (mineA s m ∧ ¬ nackA s m)) : stA s m = s := by unfold stA; rw [if_neg h]
set_option maxRecDepth 20000 in
theorem acReplay_spec {L : List HP} {b : Nat} {s : AccD} (x : ByteArray) (hx : x.size ≤ 140737488355328) : Fn Try.prog 35 #[.pointer (some ⟨b, 0, none⟩), .string x] (ac b s :: L) (fun v L' => v = .int .i64 (replE s x) ∧ L' = ac b (replS s x) :: L) := by
  refine Fn_enter Try.func35 rfl rfl rfl rfl ?_
  refine T_region ?_
  refine TL_y rfl rfl (Y_assign rfl) ?_
  refine TL_nil ?_
  refine T_seq ?_
  refine T_region ?_
  refine TL_y rfl rfl (Y_move rfl) ?_
  refine TL_pullk b ?_
  refine TL_call rfl rfl (acMade_spec) ?_
  rintro _ _ ⟨rfl, rfl⟩
  refine TL_name 9 (v' := .bool true) rfl (rfl) ?_
  refine TL_y rfl rfl (Y_not_t rfl) ?_
  refine TL_nil ?_
  refine T_cond_false rfl ?_
  refine T_skip ?_
  refine thenS_normal ?_
  refine T_region ?_
  refine TL_y rfl rfl (Y_move rfl) ?_
  refine TL_str_bytes rfl rfl (by simp only [maxEl]; omega) ?_
  intro A13 c13
  refine TL_call rfl rfl (readMsg3_spec slk (by rw [strBytes_length]; omega)) ?_
  rintro _ _ ⟨m, p, e, rfl, rfl, hok, hres, h0⟩
  refine TL_y rfl rfl (Y_move rfl) ?_
  refine TL_y rfl rfl (Y_extract rfl rfl) ?_
  refine TL_y rfl rfl (Y_extract rfl rfl) ?_
  refine TL_alloc rfl rfl ?_
  intro b5
  refine TL_store rfl rfl rfl rfl rfl rfl ?_
  refine TL_y rfl rfl (Y_assign rfl) ?_
  refine TL_nil ?_
  refine T_seq ?_
  have hdec := dec_res hres h0
  have hcm : cMsg m ≤ 140737488355328 := (by rcases hdec with ⟨_, h1, _⟩ | ⟨_, h1, _⟩; exact cMsg_r h1; rw [h1]; exact cMsg_0)
  refine T_region ?_
  refine TL_y rfl rfl (Y_move rfl) ?_
  refine TL_y rfl rfl (Y_load_agg rfl rfl) ?_
  refine TL_pullk b ?_
  refine TL_call rfl rfl (acJudge_spec m p hok ⟨slk, slk, slk, slk⟩ hcm) ?_
  rintro _ _ ⟨rfl, rfl⟩
  refine TL_name 19 (v' := .agg #[.string (recA s m), .bool (decide (mineA s m)), .bool (decide (mineA s m ∧ nackA s m))]) rfl (rfl) ?_
  refine TL_alloc rfl rfl ?_
  intro b7
  refine TL_store rfl rfl rfl rfl rfl rfl ?_
  refine TL_nil ?_
  rcases hdec with ⟨rfl, hr, hd, _⟩ | ⟨rfl, rfl, hd⟩
  · refine T_region ?_
    refine TL_y rfl rfl (Y_move rfl) ?_
    refine TL_y rfl rfl (Y_ne rfl rfl) ?_
    refine TL_name 21 (v' := .bool false) rfl (congrArg Value.bool (decide_eq_false (by decide))) ?_
    refine TL_y rfl rfl (Y_move rfl) ?_
    refine TL_grun rfl rfl ?_
    refine TL_y rfl rfl (Y_field_addr rfl) ?_
    refine TL_grun rfl rfl ?_
    refine TL_y rfl rfl (Y_load rfl rfl) ?_
    refine TL_grun rfl rfl ?_
    refine TL_y rfl rfl (Y_not_d rfl) ?_
    refine TL_y rfl rfl (Y_pick_f rfl rfl) ?_
    refine TL_y rfl rfl (Y_move rfl) ?_
    refine TL_splitd 27 rfl (fun h27 => ?_) (fun h27 => ?_)
    · refine TL_gskip rfl rfl rfl rfl ?_
      refine TL_gskip rfl rfl rfl rfl ?_
      refine TL_y rfl rfl (Y_pick_t rfl rfl) ?_
      refine TL_nil ?_
      refine T_cond_true rfl ?_
      refine T_region ?_
      refine TL_y rfl rfl (Y_assign rfl) ?_
      refine TL_nil ?_
      refine T_ret ?_
      refine thenS_ret ?_
      rw [show (replE s x : Int) = 10 by unfold replE; rw [hd]; exact if_neg (fun h => h27 h.1), show replS s x = s by unfold replS; rw [hd]; exact stA_same (fun h => h27 h.1)]
      exact RetG_1 (.inl rfl) rfl (ResV.tmp rfl) GivesTo.g (⟨rfl, rfl⟩)
    · refine TL_grun rfl rfl ?_
      refine TL_y rfl rfl (Y_field_addr rfl) ?_
      refine TL_grun rfl rfl ?_
      refine TL_y rfl rfl (Y_load rfl rfl) ?_
      refine TL_y rfl rfl (Y_pick_f rfl rfl) ?_
      refine TL_nil ?_
      refine T_if rfl (fun h30 => ?_) (fun h30 => ?_)
      · refine T_region ?_
        refine TL_y rfl rfl (Y_assign rfl) ?_
        refine TL_nil ?_
        refine T_ret ?_
        refine thenS_ret ?_
        rw [show (replE s x : Int) = 10 by unfold replE; rw [hd]; exact if_neg (fun h => h.2 h30.2), show replS s x = s by unfold replS; rw [hd]; exact stA_same (fun h => h.2 h30.2)]
        exact RetG_1 (.inl rfl) rfl (ResV.tmp rfl) GivesTo.g (⟨rfl, rfl⟩)
      · refine T_skip ?_
        refine thenS_normal ?_
        refine T_region ?_
        refine TL_y rfl rfl (Y_move rfl) ?_
        refine TL_y rfl rfl (Y_load_agg rfl rfl) ?_
        refine TL_pullk b ?_
        refine TL_call rfl rfl (acOn_spec m p hok ⟨slk, slk, slk, slk⟩ hcm) ?_
        rintro _ _ ⟨q, rfl, rfl⟩
        refine TL_nil ?_
        refine T_region ?_
        refine TL_y rfl rfl (Y_assign rfl) ?_
        refine TL_nil ?_
        refine T_ret ?_
        have hmine : mineA s m := Classical.not_not.1 h27
        rw [show (replE s x : Int) = 0 by unfold replE; rw [hd]; exact if_pos ⟨hmine, fun h => h30 ⟨hmine, h⟩⟩, show replS s x = stA s m by unfold replS; rw [hd]]
        exact RetG_1 (.inl rfl) rfl (ResV.tmp rfl) GivesTo.g (⟨rfl, rfl⟩)
  · refine T_region ?_
    refine TL_y rfl rfl (Y_move rfl) ?_
    refine TL_y rfl rfl (Y_ne rfl rfl) ?_
    refine TL_name 21 (v' := .bool true) rfl (congrArg Value.bool (decide_eq_true (by decide))) ?_
    refine TL_y rfl rfl (Y_move rfl) ?_
    refine TL_gskip rfl rfl rfl rfl ?_
    refine TL_gskip rfl rfl rfl rfl ?_
    refine TL_gskip rfl rfl rfl rfl ?_
    refine TL_y rfl rfl (Y_pick_t rfl rfl) ?_
    refine TL_y rfl rfl (Y_move rfl) ?_
    refine TL_gskip rfl rfl rfl rfl ?_
    refine TL_gskip rfl rfl rfl rfl ?_
    refine TL_y rfl rfl (Y_pick_t rfl rfl) ?_
    refine TL_nil ?_
    refine T_cond_true rfl ?_
    refine T_region ?_
    refine TL_y rfl rfl (Y_assign rfl) ?_
    refine TL_nil ?_
    refine T_ret ?_
    refine thenS_ret ?_
    rw [show (replE s x : Int) = 10 by unfold replE; rw [hd], show replS s x = s by unfold replS; rw [hd]]
    exact RetG_1 (.inl rfl) rfl (ResV.tmp rfl) GivesTo.g (⟨rfl, rfl⟩)
end Go.SL
set_option linter.unusedVariables false
set_option linter.unusedSimpArgs false
namespace Go.SL
open Go Go.Proofs
theorem putV_same {V : List VotedD} (h : IncV V) {v : VotedD} (hg : getM (vmap V) v.slot = some v) : putV V v = V := by
  obtain ⟨h1, _⟩ := vmap_get hg
  obtain ⟨i, hi⟩ := List.getElem?_of_mem h1
  rw [put_set h hi rfl]
  exact set_same hi
theorem stA_quiet {s : AccD} {m : MsgD} (hi : AI s) (h : recA s m = ⟨#[]⟩) : stA s m = s := by
  have h1 := rec_none.1 h
  by_cases hc : mineA s m ∧ ¬ nackA s m
  · have h2 : ¬ chgA s m := fun h => h1 ⟨hc.1, hc.2, h⟩
    unfold chgA at h2
    have hp : s.prom = m.bal := Classical.byContradiction fun h => h2 (.inl h)
    unfold stA
    rw [if_pos hc]
    by_cases hk : m.kind = 1
    · rw [if_pos hk, ← hp]
    · rw [if_neg hk, ← hp]
      have h3 : m.kind = 3 := by rcases hc.1.2.2 with e | e; exact absurd e hk; exact e
      have h4 : getM (vmap s.V) (newV m).slot = some (newV m) := Classical.byContradiction fun h => h2 (.inr ⟨h3, h⟩)
      rw [putV_same hi.inc h4]
  · exact stA_same hc
theorem rec_dec {s : AccD} {m : MsgD} (h : recA s m ≠ ⟨#[]⟩) : mineA s m ∧ ¬ nackA s m ∧ decM (recA s m) = some m ∧ (recA s m).size ≤ 65536 := by
  have h1 : mineA s m ∧ ¬ nackA s m ∧ chgA s m := Classical.byContradiction fun h2 => h (rec_none.2 h2)
  have h2 := out_msg h1.1.1
  have h3 : strBytes (recA s m) = bMsg m := by unfold recA; rw [if_pos h1, h2.2, strBytes_strOf (byt_msg m)]
  have h4 : (strBytes (recA s m)).length ≤ 65536 := by rw [h3, ← h2.2]; exact out_len
  exact ⟨h1.1, h1.2.1, decM_some h2.1 h3 h4, by rw [← strBytes_length]; exact h4⟩
theorem repl_rec {s : AccD} {m : MsgD} (h : recA s m ≠ ⟨#[]⟩) : replE s (recA s m) = 0 ∧ replS s (recA s m) = stA s m ∧ (recA s m).size ≤ 140737488355328 := by
  obtain ⟨h1, h2, h3, h4⟩ := rec_dec h
  exact ⟨by unfold replE; rw [h3]; exact if_pos ⟨h1, h2⟩, by unfold replS; rw [h3], by omega⟩
structure LsSt where
  i : Nat
  n : Nat
  s : AccD
  t : AccD
theorem acceptorLasts_bad {L : List HP} {A : Option Addr} {c : Nat} {l : List MsgD} (node cut : Int) (hnode : ¬ (0 ≤ node ∧ node ≤ 6)) : Fn Try.prog 7 #[.int .i64 node, .slice A l.length c, .int .i64 cut] L (fun v L' => v = .bool true ∧ L' = L) := by
  refine Fn_enter Try.func7 rfl rfl rfl rfl ?_
  refine T_region ?_
  refine TL_y rfl rfl (Y_assign rfl) ?_
  refine TL_nil ?_
  refine T_region ?_
  refine TL_y rfl rfl (Y_move rfl) ?_
  refine TL_call rfl rfl (acNew_bad node hnode _) ?_
  rintro _ _ ⟨rfl, rfl⟩
  refine TL_y rfl rfl (Y_move rfl) ?_
  refine TL_y rfl rfl (Y_extract rfl rfl) ?_
  refine TL_y rfl rfl (Y_extract rfl rfl) ?_
  refine TL_y rfl rfl (Y_assign rfl) ?_
  refine TL_y rfl rfl (Y_assign rfl) ?_
  refine TL_nil ?_
  refine T_region ?_
  refine TL_y rfl rfl (Y_move rfl) ?_
  refine TL_call rfl rfl (acNew_bad node hnode _) ?_
  rintro _ _ ⟨rfl, rfl⟩
  refine TL_y rfl rfl (Y_move rfl) ?_
  refine TL_y rfl rfl (Y_extract rfl rfl) ?_
  refine TL_y rfl rfl (Y_extract rfl rfl) ?_
  refine TL_y rfl rfl (Y_assign rfl) ?_
  refine TL_y rfl rfl (Y_assign rfl) ?_
  refine TL_nil ?_
  refine T_region ?_
  refine TL_y rfl rfl (Y_move rfl) ?_
  refine TL_call rfl rfl (acNew_bad node hnode _) ?_
  rintro _ _ ⟨rfl, rfl⟩
  refine TL_y rfl rfl (Y_move rfl) ?_
  refine TL_y rfl rfl (Y_extract rfl rfl) ?_
  refine TL_y rfl rfl (Y_extract rfl rfl) ?_
  refine TL_y rfl rfl (Y_assign rfl) ?_
  refine TL_y rfl rfl (Y_assign rfl) ?_
  refine TL_nil ?_
  refine T_seq ?_
  refine T_region ?_
  refine TL_call rfl rfl (lives16_spec _) ?_
  rintro _ _ ⟨rfl, rfl⟩
  refine TL_name 33 (v' := .bool true) rfl (rfl) ?_
  refine TL_y rfl rfl (Y_not_t rfl) ?_
  refine TL_y rfl rfl (Y_move rfl) ?_
  refine TL_grun rfl rfl ?_
  refine TL_y rfl rfl (Y_move rfl) ?_
  refine TL_grun rfl rfl ?_
  refine TL_y rfl rfl (Y_move rfl) ?_
  refine TL_grun rfl rfl ?_
  refine TL_y rfl rfl (Y_ne rfl rfl) ?_
  refine TL_name 38 (v' := .bool false) rfl (congrArg Value.bool (decide_eq_false (by decide))) ?_
  refine TL_y rfl rfl (Y_pick_f rfl rfl) ?_
  refine TL_y rfl rfl (Y_move rfl) ?_
  refine TL_grun rfl rfl ?_
  refine TL_y rfl rfl (Y_move rfl) ?_
  refine TL_grun rfl rfl ?_
  refine TL_y rfl rfl (Y_move rfl) ?_
  refine TL_grun rfl rfl ?_
  refine TL_y rfl rfl (Y_ne rfl rfl) ?_
  refine TL_name 43 (v' := .bool false) rfl (congrArg Value.bool (decide_eq_false (by decide))) ?_
  refine TL_y rfl rfl (Y_pick_f rfl rfl) ?_
  refine TL_nil ?_
  refine T_cond_false rfl ?_
  refine T_skip ?_
  refine thenS_normal ?_
  refine T_seq ?_
  refine T_region ?_
  refine TL_y rfl rfl (Y_move rfl) ?_
  refine TL_y rfl rfl (Y_ne rfl rfl) ?_
  refine TL_name 46 (v' := .bool true) rfl (congrArg Value.bool (decide_eq_true (by decide))) ?_
  refine TL_nil ?_
  refine T_cond_true rfl ?_
  refine T_region ?_
  refine TL_y rfl rfl (Y_move rfl) ?_
  refine TL_y rfl rfl (Y_equal rfl rfl (EqIs.ptr_nil)) ?_
  refine TL_name 48 (v' := .bool true) rfl (by simp) ?_
  refine TL_y rfl rfl (Y_assign rfl) ?_
  refine TL_nil ?_
  refine T_ret ?_
  refine thenS_ret ?_
  exact RetG_1 (.inl rfl) rfl (ResV.tmp rfl) GivesTo.g (⟨rfl, rfl⟩)
theorem acceptorLasts_ok {L : List HP} {A : Option Addr} {c : Nat} {l : List MsgD} (node cut : Int) (hcut : intIn .i64 cut) (hnode : 0 ≤ node ∧ node ≤ 6) (hk : SlK L msgR A c l) (hb : ∀ m ∈ l, cMsg m ≤ 140737488355328) (hl : l.length ≤ 281474976710656) : Fn Try.prog 7 #[.int .i64 node, .slice A l.length c, .int .i64 cut] L (fun v L' => v = .bool true ∧ L' = L) := by
  refine Fn_enter Try.func7 rfl rfl rfl rfl ?_
  refine T_gives hk.lay ?_
  refine T_region ?_
  refine TL_y rfl rfl (Y_assign rfl) ?_
  refine TL_nil ?_
  refine T_region ?_
  refine TL_y rfl rfl (Y_move rfl) ?_
  refine TL_call rfl rfl (acNew_ok node hnode _) ?_
  rintro _ _ ⟨ba, rfl, rfl⟩
  refine TL_y rfl rfl (Y_move rfl) ?_
  refine TL_y rfl rfl (Y_extract rfl rfl) ?_
  refine TL_y rfl rfl (Y_extract rfl rfl) ?_
  refine TL_y rfl rfl (Y_assign rfl) ?_
  refine TL_y rfl rfl (Y_assign rfl) ?_
  refine TL_nil ?_
  refine T_region ?_
  refine TL_y rfl rfl (Y_move rfl) ?_
  refine TL_call rfl rfl (acNew_ok node hnode _) ?_
  rintro _ _ ⟨bb, rfl, rfl⟩
  refine TL_y rfl rfl (Y_move rfl) ?_
  refine TL_y rfl rfl (Y_extract rfl rfl) ?_
  refine TL_y rfl rfl (Y_extract rfl rfl) ?_
  refine TL_y rfl rfl (Y_assign rfl) ?_
  refine TL_y rfl rfl (Y_assign rfl) ?_
  refine TL_nil ?_
  refine T_region ?_
  refine TL_y rfl rfl (Y_move rfl) ?_
  refine TL_call rfl rfl (acNew_ok node hnode _) ?_
  rintro _ _ ⟨bc, rfl, rfl⟩
  refine TL_y rfl rfl (Y_move rfl) ?_
  refine TL_y rfl rfl (Y_extract rfl rfl) ?_
  refine TL_y rfl rfl (Y_extract rfl rfl) ?_
  refine TL_y rfl rfl (Y_assign rfl) ?_
  refine TL_y rfl rfl (Y_assign rfl) ?_
  refine TL_nil ?_
  refine T_seq ?_
  refine T_region ?_
  refine TL_call rfl rfl (lives16_spec _) ?_
  rintro _ _ ⟨rfl, rfl⟩
  refine TL_name 33 (v' := .bool true) rfl (rfl) ?_
  refine TL_y rfl rfl (Y_not_t rfl) ?_
  refine TL_y rfl rfl (Y_move rfl) ?_
  refine TL_grun rfl rfl ?_
  refine TL_y rfl rfl (Y_move rfl) ?_
  refine TL_grun rfl rfl ?_
  refine TL_y rfl rfl (Y_move rfl) ?_
  refine TL_grun rfl rfl ?_
  refine TL_y rfl rfl (Y_ne rfl rfl) ?_
  refine TL_name 38 (v' := .bool false) rfl (congrArg Value.bool (decide_eq_false (by decide))) ?_
  refine TL_y rfl rfl (Y_pick_f rfl rfl) ?_
  refine TL_y rfl rfl (Y_move rfl) ?_
  refine TL_grun rfl rfl ?_
  refine TL_y rfl rfl (Y_move rfl) ?_
  refine TL_grun rfl rfl ?_
  refine TL_y rfl rfl (Y_move rfl) ?_
  refine TL_grun rfl rfl ?_
  refine TL_y rfl rfl (Y_ne rfl rfl) ?_
  refine TL_name 43 (v' := .bool false) rfl (congrArg Value.bool (decide_eq_false (by decide))) ?_
  refine TL_y rfl rfl (Y_pick_f rfl rfl) ?_
  refine TL_nil ?_
  refine T_cond_false rfl ?_
  refine T_skip ?_
  refine thenS_normal ?_
  refine T_seq ?_
  refine T_region ?_
  refine TL_y rfl rfl (Y_move rfl) ?_
  refine TL_y rfl rfl (Y_ne rfl rfl) ?_
  refine TL_name 46 (v' := .bool false) rfl (congrArg Value.bool (decide_eq_false (by decide))) ?_
  refine TL_nil ?_
  refine T_cond_false rfl ?_
  refine T_skip ?_
  refine thenS_normal ?_
  refine T_region ?_
  refine TL_y rfl rfl (Y_assign rfl) ?_
  refine TL_nil ?_
  refine T_seq ?_
  refine T_region ?_
  refine TL_y rfl rfl (Y_assign rfl) ?_
  refine TL_nil ?_
  refine T_block ?_
  refine T_loopK (σ := LsSt) [1, 2, 7, 9, 11] (fun g => g.i ≤ l.length ∧ g.n ≤ g.i ∧ ((g.n : Int) < cut → g.t = g.s)) (fun g kv => (14, .int .i64 (g.i : Int)) :: (13, .int .i64 (g.n : Int)) :: kv) (fun g => ac ba g.s :: ac bb g.s :: ac bc g.t :: sl msgR A c l :: L) (fun g => l.length - g.i) (⟨0, 0, acNew node, acNew node⟩) rfl (⟨Nat.zero_le _, Nat.le_refl _, fun _ => rfl⟩) (GivesTo.g) (sub_cons rfl (sub_cons rfl (sub_cons rfl (sub_cons rfl (sub_cons rfl (sub_cons rfl (sub_cons rfl (sub_nil)))))))) ?_
  rintro ⟨i, n, s, t⟩ ⟨hil, hni, hcu⟩
  dsimp only at hil hni hcu ⊢
  refine T_seq ?_
  refine T_region ?_
  refine TL_y rfl rfl (Y_move rfl) ?_
  refine TL_y rfl rfl (Y_move rfl) ?_
  refine TL_y rfl rfl (Y_len rfl) ?_
  refine TL_y rfl rfl (Y_lt rfl rfl) ?_
  refine TL_nil ?_
  refine T_if rfl (fun h52 => ?_) (fun h52 => ?_)
  · refine T_skip ?_
    refine thenS_normal ?_
    refine T_seq ?_
    refine T_block ?_
    obtain ⟨m, hm⟩ : ∃ m, l[i]? = some m := ⟨_, List.getElem?_eq_getElem (by omega)⟩
    have hmb := hb m (List.mem_of_getElem? hm)
    refine T_acI fun hi => ?_
    refine T_region ?_
    refine TL_y rfl rfl (Y_move rfl) ?_
    refine TL_y rfl rfl (Y_move rfl) ?_
    refine TL_y rfl rfl (Y_move rfl) ?_
    refine TL_index_n rfl rfl rfl (rfl) ((sln (A := A) (c := c))) (hm) ?_
    intro bn59 on59 hA59 hk59
    have hu59 := hm
    refine TL_load_nx rfl rfl hk59 hu59 (fun _ => rfl) ?_
    intro p60 ok60
    simp only [List.cons_append, List.nil_append]
    refine TL_pullk ba ?_
    refine TL_call rfl rfl (acOn_spec m p60 ok60 ⟨slk, slk, slk, slk⟩ hmb) ?_
    rintro _ _ ⟨q, rfl, rfl⟩
    refine TL_y rfl rfl (Y_move rfl) ?_
    refine TL_y rfl rfl (Y_extract rfl rfl) ?_
    refine TL_y rfl rfl (Y_extract rfl rfl) ?_
    refine TL_y rfl rfl (Y_extract rfl rfl) ?_
    refine TL_alloc rfl rfl ?_
    intro b15
    refine TL_store rfl rfl rfl rfl rfl rfl ?_
    refine TL_y rfl rfl (Y_assign rfl) ?_
    refine TL_y rfl rfl (Y_assign rfl) ?_
    refine TL_nil ?_
    refine T_seq ?_
    refine T_region ?_
    refine TL_y rfl rfl (Y_move rfl) ?_
    refine TL_y rfl rfl (Y_str_eq rfl rfl) ?_
    refine TL_nil ?_
    refine T_if rfl (fun h66 => ?_) (fun h66 => ?_)
    · refine T_exit ?_
      refine thenS_exit ?_
      refine inB_hit ?_
      refine thenS_normal ?_
      rw [stA_quiet hi h66]
      refine T_region_last ?_
      refine TL_y rfl rfl (Y_move rfl) ?_
      refine TL_y rfl rfl (Y_add rfl rfl (by omega)) ?_
      refine TL_name 54 (v' := .int .i64 ((i + 1 : Nat) : Int)) rfl (rfl) ?_
      refine TL_y rfl rfl (Y_assign rfl) ?_
      refine TL_nil ?_
      refine thenS_normal ?_
      exact ⟨⟨i + 1, n, s, t⟩, ⟨by simp only; omega, by simp only; omega, hcu⟩, by simp only; omega, holds_to (sub_cons rfl (sub_cons rfl (sub_cons rfl (sub_cons rfl (sub_cons rfl (sub_cons rfl (sub_cons rfl (sub_nil)))))))) GivesTo.g⟩
    · refine T_skip ?_
      refine thenS_normal ?_
      refine T_seq ?_
      obtain ⟨hre, hrs, hrl⟩ := repl_rec h66
      refine T_region ?_
      refine TL_y rfl rfl (Y_move rfl) ?_
      refine TL_y rfl rfl (Y_move rfl) ?_
      refine TL_pullk bb ?_
      refine TL_call rfl rfl (acReplay_spec (recA s m) hrl) ?_
      rintro _ _ ⟨rfl, rfl⟩
      rw [hre, hrs]
      refine TL_y rfl rfl (Y_ne rfl rfl) ?_
      refine TL_name 70 (v' := .bool false) rfl (congrArg Value.bool (decide_eq_false (by decide))) ?_
      refine TL_y rfl rfl (Y_move rfl) ?_
      refine TL_grun rfl rfl ?_
      refine TL_y rfl rfl (Y_move rfl) ?_
      refine TL_grun rfl rfl ?_
      refine TL_pullk ba ?_
      refine TL_call rfl rfl (acPromised_spec) ?_
      rintro _ _ ⟨rfl, rfl⟩
      refine TL_grun rfl rfl ?_
      refine TL_y rfl rfl (Y_move rfl) ?_
      refine TL_grun rfl rfl ?_
      refine TL_pullk bb ?_
      refine TL_call rfl rfl (acPromised_spec) ?_
      rintro _ _ ⟨rfl, rfl⟩
      refine TL_grun rfl rfl ?_
      refine TL_y rfl rfl (Y_ne_bal (a := (stA s m).prom) (b := (stA s m).prom) rfl rfl) ?_
      refine TL_name 76 (v' := .bool false) rfl (congrArg Value.bool (pair_ne rfl)) ?_
      refine TL_y rfl rfl (Y_pick_f rfl rfl) ?_
      refine TL_y rfl rfl (Y_move rfl) ?_
      refine TL_grun rfl rfl ?_
      refine TL_y rfl rfl (Y_move rfl) ?_
      refine TL_grun rfl rfl ?_
      refine TL_pullk ba ?_
      refine TL_call rfl rfl (acVotes_spec) ?_
      rintro _ _ ⟨A80, c80, rfl, rfl⟩
      refine TL_freeze_osl ?_
      refine TL_grun rfl rfl ?_
      refine TL_y rfl rfl (Y_move rfl) ?_
      refine TL_grun rfl rfl ?_
      refine TL_pullk bb ?_
      refine TL_call rfl rfl (acVotes_spec) ?_
      rintro _ _ ⟨A82, c82, rfl, rfl⟩
      refine TL_freeze_osl ?_
      refine TL_grun rfl rfl ?_
      refine TL_call rfl rfl (sameVoted_spec (slk (A := A80) (c := c80)) (slk (A := A82) (c := c82))) ?_
      rintro _ _ ⟨rfl, rfl⟩
      refine TL_name 83 (v' := .bool true) rfl (congrArg Value.bool (by simp)) ?_
      refine TL_grun rfl rfl ?_
      refine TL_y rfl rfl (Y_not_t rfl) ?_
      refine TL_y rfl rfl (Y_pick_f rfl rfl) ?_
      refine TL_nil ?_
      refine T_cond_false rfl ?_
      refine T_skip ?_
      refine thenS_normal ?_
      refine T_seq ?_
      refine T_region ?_
      refine TL_y rfl rfl (Y_move rfl) ?_
      refine TL_y rfl rfl (Y_move rfl) ?_
      refine TL_y rfl rfl (Y_lt rfl rfl) ?_
      refine TL_nil ?_
      refine T_if rfl (fun h88 => ?_) (fun h88 => ?_)
      · have ets := hcu h88
        subst ets
        refine T_region ?_
        refine TL_y rfl rfl (Y_move rfl) ?_
        refine TL_y rfl rfl (Y_move rfl) ?_
        refine TL_pullk bc ?_
        refine TL_call rfl rfl (acReplay_spec (recA t m) hrl) ?_
        rintro _ _ ⟨rfl, rfl⟩
        rw [hrs]
        refine TL_nil ?_
        refine T_region ?_
        refine TL_y rfl rfl (Y_move rfl) ?_
        refine TL_pullk bc ?_
        refine TL_call rfl rfl (acPromised_spec) ?_
        rintro _ _ ⟨rfl, rfl⟩
        refine TL_y rfl rfl (Y_move rfl) ?_
        refine TL_pullk ba ?_
        refine TL_call rfl rfl (acPromised_spec) ?_
        rintro _ _ ⟨rfl, rfl⟩
        refine TL_y rfl rfl (Y_ne_bal (a := (stA t m).prom) (b := (stA t m).prom) rfl rfl) ?_
        refine TL_name 96 (v' := .bool false) rfl (congrArg Value.bool (pair_ne rfl)) ?_
        refine TL_y rfl rfl (Y_move rfl) ?_
        refine TL_grun rfl rfl ?_
        refine TL_y rfl rfl (Y_move rfl) ?_
        refine TL_grun rfl rfl ?_
        refine TL_pullk ba ?_
        refine TL_call rfl rfl (acVotes_spec) ?_
        rintro _ _ ⟨A99, c99, rfl, rfl⟩
        refine TL_freeze_osl ?_
        refine TL_grun rfl rfl ?_
        refine TL_y rfl rfl (Y_move rfl) ?_
        refine TL_grun rfl rfl ?_
        refine TL_pullk bc ?_
        refine TL_call rfl rfl (acVotes_spec) ?_
        rintro _ _ ⟨A101, c101, rfl, rfl⟩
        refine TL_freeze_osl ?_
        refine TL_grun rfl rfl ?_
        refine TL_call rfl rfl (sameVoted_spec (slk (A := A99) (c := c99)) (slk (A := A101) (c := c101))) ?_
        rintro _ _ ⟨rfl, rfl⟩
        refine TL_name 102 (v' := .bool true) rfl (congrArg Value.bool (by simp)) ?_
        refine TL_grun rfl rfl ?_
        refine TL_y rfl rfl (Y_not_t rfl) ?_
        refine TL_y rfl rfl (Y_pick_f rfl rfl) ?_
        refine TL_nil ?_
        refine T_cond_false rfl ?_
        refine T_skip ?_
        refine thenS_normal ?_
        refine T_region_last ?_
        refine TL_y rfl rfl (Y_move rfl) ?_
        refine TL_y rfl rfl (Y_add rfl rfl (by omega)) ?_
        refine TL_name 106 (v' := .int .i64 ((n + 1 : Nat) : Int)) rfl (rfl) ?_
        refine TL_y rfl rfl (Y_assign rfl) ?_
        refine TL_nil ?_
        refine inB_normal ?_
        refine thenS_normal ?_
        refine T_region_last ?_
        refine TL_y rfl rfl (Y_move rfl) ?_
        refine TL_y rfl rfl (Y_add rfl rfl (by omega)) ?_
        refine TL_name 54 (v' := .int .i64 ((i + 1 : Nat) : Int)) rfl (rfl) ?_
        refine TL_y rfl rfl (Y_assign rfl) ?_
        refine TL_nil ?_
        refine thenS_normal ?_
        exact ⟨⟨i + 1, n + 1, stA t m, stA t m⟩, ⟨by simp only; omega, by simp only; omega, fun _ => rfl⟩, by simp only; omega, holds_to (sub_cons rfl (sub_cons rfl (sub_cons rfl (sub_cons rfl (sub_cons rfl (sub_cons rfl (sub_cons rfl (sub_nil)))))))) GivesTo.g⟩
      · refine T_skip ?_
        refine thenS_normal ?_
        refine T_region_last ?_
        refine TL_y rfl rfl (Y_move rfl) ?_
        refine TL_y rfl rfl (Y_add rfl rfl (by omega)) ?_
        refine TL_name 106 (v' := .int .i64 ((n + 1 : Nat) : Int)) rfl (rfl) ?_
        refine TL_y rfl rfl (Y_assign rfl) ?_
        refine TL_nil ?_
        refine inB_normal ?_
        refine thenS_normal ?_
        refine T_region_last ?_
        refine TL_y rfl rfl (Y_move rfl) ?_
        refine TL_y rfl rfl (Y_add rfl rfl (by omega)) ?_
        refine TL_name 54 (v' := .int .i64 ((i + 1 : Nat) : Int)) rfl (rfl) ?_
        refine TL_y rfl rfl (Y_assign rfl) ?_
        refine TL_nil ?_
        refine thenS_normal ?_
        exact ⟨⟨i + 1, n + 1, stA s m, t⟩, ⟨by simp only; omega, by simp only; omega, fun h => absurd h (by simp only; omega)⟩, by simp only; omega, holds_to (sub_cons rfl (sub_cons rfl (sub_cons rfl (sub_cons rfl (sub_cons rfl (sub_cons rfl (sub_cons rfl (sub_nil)))))))) GivesTo.g⟩
  · refine T_exit ?_
    refine thenS_exit ?_
    refine thenS_exit ?_
    refine inB_hit ?_
    refine thenS_normal ?_
    refine T_region ?_
    refine TL_y rfl rfl (Y_move rfl) ?_
    refine TL_pullk ba ?_
    refine TL_call rfl rfl (acPromised_spec) ?_
    rintro _ _ ⟨rfl, rfl⟩
    refine TL_y rfl rfl (Y_move rfl) ?_
    refine TL_pullk bb ?_
    refine TL_call rfl rfl (acPromised_spec) ?_
    rintro _ _ ⟨rfl, rfl⟩
    refine TL_y rfl rfl (Y_eq_bal (a := s.prom) (b := s.prom) rfl rfl) ?_
    refine TL_name 111 (v' := .bool true) rfl (congrArg Value.bool (decide_eq_true rfl)) ?_
    refine TL_y rfl rfl (Y_move rfl) ?_
    refine TL_grun rfl rfl ?_
    refine TL_y rfl rfl (Y_move rfl) ?_
    refine TL_grun rfl rfl ?_
    refine TL_pullk ba ?_
    refine TL_call rfl rfl (acVotes_spec) ?_
    rintro _ _ ⟨A114, c114, rfl, rfl⟩
    refine TL_freeze_osl ?_
    refine TL_grun rfl rfl ?_
    refine TL_y rfl rfl (Y_move rfl) ?_
    refine TL_grun rfl rfl ?_
    refine TL_pullk bb ?_
    refine TL_call rfl rfl (acVotes_spec) ?_
    rintro _ _ ⟨A116, c116, rfl, rfl⟩
    refine TL_freeze_osl ?_
    refine TL_grun rfl rfl ?_
    refine TL_call rfl rfl (sameVoted_spec (slk (A := A114) (c := c114)) (slk (A := A116) (c := c116))) ?_
    rintro _ _ ⟨rfl, rfl⟩
    refine TL_name 117 (v' := .bool true) rfl (congrArg Value.bool (by simp)) ?_
    refine TL_y rfl rfl (Y_pick_t rfl rfl) ?_
    refine TL_y rfl rfl (Y_assign rfl) ?_
    refine TL_nil ?_
    refine T_ret ?_
    exact RetG_1 (.inl rfl) rfl (ResV.tmp rfl) GivesTo.g (⟨rfl, rfl⟩)
theorem acceptorLasts_walk {L : List HP} {A : Option Addr} {c : Nat} {l : List MsgD} (node cut : Int) (hcut : intIn .i64 cut) (hk : SlK L msgR A c l) (hb : ∀ m ∈ l, cMsg m ≤ 140737488355328) (hl : l.length ≤ 281474976710656) : Fn Try.prog 7 #[.int .i64 node, .slice A l.length c, .int .i64 cut] L (fun v L' => v = .bool true ∧ L' = L) := by
  by_cases hnode : 0 ≤ node ∧ node ≤ 6
  · exact acceptorLasts_ok node cut hcut hnode hk hb hl
  · exact acceptorLasts_bad node cut hnode
end Go.SL
