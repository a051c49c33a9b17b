/- Codec: the walks of the reader: lists and records. -/
import Derived.Test.YtiiejjdkhekhmaaRdC
set_option linter.unusedVariables false
set_option linter.unusedSimpArgs false
namespace Go.SL
open Go Go.Proofs
theorem one_cell {α : Type} {R : Rep α} {x : α} {l : List Value} {L : List HP} (h : Knows L (fun M => R.rep M x l)) : Knows L (fun M => CellsOf M R [x] l) := h.mono fun M h => ⟨l, [], h, rfl, by simp⟩
structure LsS (α : Type) where
  xs : List α
  s : RS
  A : Option Addr
  c : Nat
abbrev capC (bx b : Nat) : HP := cells bx [.pointer (some ⟨b, 0, none⟩)] 117
theorem vector1_spec {L : List HP} {b bx : Nat} {s : RS} (hn : s.n + s.b.length ≤ 140737488355328) : Fn Try.prog 121 #[.pointer (some ⟨bx, 0, none⟩)] (rdr b s :: capC bx b :: L) (fun v L' => ∃ x s', v = .int .i64 x ∧ L' = rdr b s' :: capC bx b :: L ∧ RdR (rNum 2147483647) (rNum 2147483647) bNum s x s') := by
  refine Fn_enter Try.func121 rfl rfl rfl rfl ?_
  refine T_region ?_
  refine TL_y rfl rfl (Y_assign rfl) ?_
  refine TL_nil ?_
  refine T_region ?_
  refine TL_y rfl rfl (Y_load rfl rfl) ?_
  refine TL_call rfl rfl (number_spec 2147483647 (by decide) hn) ?_
  rintro _ _ ⟨x, s1, rfl, rfl, h⟩
  refine TL_y rfl rfl (Y_assign rfl) ?_
  refine TL_nil ?_
  refine T_ret ?_
  exact RetG_1 (.inl rfl) rfl (ResV.tmp rfl) GivesTo.g (⟨x, s1, rfl, rfl, h⟩)
theorem list_int_spec {L : List HP} {b bx : Nat} {s : RS} (most : Nat) (hmost : most ≤ 4096) (hn : s.n + s.b.length ≤ 140737488355328) : Fn Try.prog 120 #[.pointer (some ⟨b, 0, none⟩), .int .i64 (most : Int), .func (.func 121) #[] #[.pointer (some ⟨bx, 0, none⟩)]] (rdr b s :: capC bx b :: L) (fun v L' => ∃ xs A c s', v = .slice A xs.length c ∧ L' = sl (intR .i64) A c xs :: rdr b s' :: capC bx b :: L ∧ RdR (okL (rNum 2147483647) most) (okL (rNum 2147483647) most) (bList bNum) s xs s') := by
  refine Fn_enter Try.func120 rfl rfl rfl rfl ?_
  refine T_region ?_
  refine TL_y rfl rfl (Y_assign rfl) ?_
  refine TL_nil ?_
  refine T_region ?_
  refine TL_y rfl rfl (Y_assign rfl) ?_
  refine TL_nil ?_
  refine T_seq ?_
  refine T_region ?_
  refine TL_y rfl rfl (Y_move rfl) ?_
  refine TL_y rfl rfl (Y_move rfl) ?_
  refine TL_call rfl rfl (number_spec (most : Int) (by omega) hn) ?_
  rintro _ _ ⟨x0, s0, rfl, rfl, h0⟩
  obtain ⟨m, rfl⟩ : ∃ m : Nat, x0 = (m : Int) := ⟨x0.toNat, by have := h0.iv; unfold rNum at this; omega⟩
  have hm := h0.iv
  unfold rNum at hm
  have htot := h0.tot
  refine TL_y rfl rfl (Y_assign rfl) ?_
  refine TL_nil ?_
  refine T_block ?_
  refine T_loopK (σ := LsS Int) [0, 2] (fun g => g.xs.length ≤ m ∧ LI (rNum 2147483647) (rNum 2147483647) bNum m s0 g.xs g.s) (fun g kv => (8, .int .i64 ((m : Int) - (g.xs.length : Int))) :: (7, .slice g.A g.xs.length g.c) :: kv) (fun g => osl (intR .i64) 3 g.A g.c g.xs :: rdr b g.s :: capC bx b :: L) (fun g => m - g.xs.length) (⟨[], s0, none, 0⟩) rfl (⟨Nat.zero_le _, LI.zero⟩) (osl_nil _ _ _ _) (sub_cons (by show some (Value.int .i64 (m : Int)) = some (Value.int .i64 ((m : Int) - (([] : List Int).length : Int))); simp) (sub_cons rfl (sub_cons rfl (sub_cons rfl (sub_nil))))) ?_
  rintro ⟨xs, st, A, c⟩ ⟨hl, hli⟩
  dsimp only at hl hli ⊢
  have htot2 := hli.tot
  refine T_seq ?_
  refine T_region ?_
  refine TL_y rfl rfl (Y_move rfl) ?_
  refine TL_y rfl rfl (Y_gt rfl rfl) ?_
  refine TL_y rfl rfl (Y_move rfl) ?_
  refine TL_splitd 14 rfl (fun h14 => ?_) (fun h14 => ?_)
  · refine TL_grun rfl rfl ?_
    refine TL_y rfl rfl (Y_move rfl) ?_
    refine TL_grun rfl rfl ?_
    refine TL_y rfl rfl (Y_nil_check rfl) ?_
    refine TL_grun rfl rfl ?_
    refine TL_y rfl rfl (Y_field_addr rfl) ?_
    refine TL_grun rfl rfl ?_
    refine TL_y rfl rfl (Y_load_rdr rfl) ?_
    refine TL_grun rfl rfl ?_
    refine TL_y rfl rfl (Y_not rfl) ?_
    refine TL_y rfl rfl (Y_pick_t rfl rfl) ?_
    refine TL_nil ?_
    refine T_cond rfl (fun h20 => ?_) (fun h20 => ?_)
    · refine T_skip ?_
      refine thenS_normal ?_
      refine T_seq ?_
      refine T_block ?_
      refine T_region_last ?_
      refine TL_y rfl rfl (Y_move rfl) ?_
      refine TL_y rfl rfl (Y_move rfl) ?_
      refine TL_pullc bx ?_
      refine TL_pullk b ?_
      refine TL_call_fn rfl rfl rfl (vector1_spec (by omega)) ?_
      rintro _ _ ⟨x, s2, rfl, rfl, hx⟩
      refine TL_build_slice rfl rfl rfl rfl rfl rfl ?_
      intro b26
      have hxv := hx.iv
      unfold rNum at hxv
      refine TL_osl (k := 1) (intR .i64) [x] (one_cell (Knows.const fun M => ⟨rfl, i64In_mk (by omega)⟩)) rfl (by decide) ?_
      refine TL_freeze_osl ?_
      refine TL_name 26 (v' := .slice (some ⟨b26, 0, none⟩) [x].length 1) rfl rfl ?_
      refine TL_append rfl rfl rfl rfl rfl slk (by simp only [List.length_cons, List.length_nil]; omega) ?_
      intro A27 c27
      refine TL_y rfl rfl (Y_assign rfl) ?_
      refine TL_nil ?_
      refine inB_normal ?_
      refine thenS_normal ?_
      refine T_region_last ?_
      refine TL_y rfl rfl (Y_move rfl) ?_
      refine TL_y rfl rfl (Y_sub rfl rfl (by omega)) ?_
      refine TL_name 22 (v' := .int .i64 ((m : Int) - ((xs ++ [x]).length : Int))) rfl (by congr 1; simp; omega) ?_
      refine TL_y rfl rfl (Y_assign rfl) ?_
      refine TL_nil ?_
      refine thenS_normal ?_
      exact ⟨⟨xs ++ [x], s2, A27, c27⟩, ⟨by simp only [List.length_append, List.length_cons, List.length_nil]; omega, hli.next (pf_num (by decide)) (by omega) hx⟩, by simp only [List.length_append, List.length_cons, List.length_nil]; omega, holds_to (sub_cons rfl (sub_cons rfl (sub_cons rfl (sub_cons rfl (sub_nil))))) GivesTo.g⟩
    · refine T_exit ?_
      refine thenS_exit ?_
      refine thenS_exit ?_
      refine inB_hit ?_
      refine thenS_normal ?_
      have hd : xs.length = m ∨ st.bad = true := .inr (by simpa using h20)
      refine T_pullo A c ?_
      refine T_freeze_osl ?_
      refine T_region ?_
      refine TL_y rfl rfl (Y_move rfl) ?_
      refine TL_y rfl rfl (Y_assign rfl) ?_
      refine TL_nil ?_
      refine T_ret ?_
      exact RetG_1 (.inl rfl) rfl (ResV.tmp rfl) GivesTo.g (⟨xs, A, c, st, rfl, rfl, hli.done hmost h0 hl hd⟩)
  · refine TL_gskip rfl rfl rfl rfl ?_
    refine TL_gskip rfl rfl rfl rfl ?_
    refine TL_gskip rfl rfl rfl rfl ?_
    refine TL_gskip rfl rfl rfl rfl ?_
    refine TL_gskip rfl rfl rfl rfl ?_
    refine TL_y rfl rfl (Y_pick_f rfl rfl) ?_
    refine TL_nil ?_
    refine T_cond_false rfl ?_
    refine T_exit ?_
    refine thenS_exit ?_
    refine thenS_exit ?_
    refine inB_hit ?_
    refine thenS_normal ?_
    have hd : xs.length = m ∨ st.bad = true := .inl (by omega)
    refine T_pullo A c ?_
    refine T_freeze_osl ?_
    refine T_region ?_
    refine TL_y rfl rfl (Y_move rfl) ?_
    refine TL_y rfl rfl (Y_assign rfl) ?_
    refine TL_nil ?_
    refine T_ret ?_
    exact RetG_1 (.inl rfl) rfl (ResV.tmp rfl) GivesTo.g (⟨xs, A, c, st, rfl, rfl, hli.done hmost h0 hl hd⟩)
theorem vecR {s s1 : RS} {v : List Int} (h : RdR (okL (rNum 2147483647) 7) (okL (rNum 2147483647) 7) (bList bNum) s v s1) : RdR rVec (okL (rNum 2147483647) 7) bVec s v ⟨s1.b, s1.n, s1.bad || lastZero v⟩ := by
  refine ⟨fun k => ?_, fun y r hs hy he => ?_, h.tot, h.iv⟩
  · simp only [Bool.or_eq_false_iff] at k
    obtain ⟨a1, a2, a3⟩ := h.snd k.1
    exact ⟨a1, ⟨a2.2, a2.1, k.2⟩, a3⟩
  · have g := h.cmp y r hs ⟨hy.2.1, hy.1⟩ he
    obtain ⟨a1, a2, a3⟩ := h.snd g
    have e := a3.symm.trans he
    unfold bList bVec at e
    rw [List.append_assoc, List.append_assoc] at e
    have h1 := a2.1; have h2 := hy.2.1
    obtain ⟨e1, _⟩ := pf_list (pf_num (most := 2147483647) (by decide)) (by omega) (by omega) a2.2 hy.1 e
    subst e1
    simp only [g, hy.2.2, Bool.or_false]
theorem T_addr_c {α : Type} {R : Rep α} {A : Option Addr} {c : Nat} {xs : List α} {L : List HP} {r : Option Nat} {n : Nat} {P : Program} {D : List Deferred} {E : Env} {Q : Exit → St → Prop} {c' : Code} (hk : SlN L R A c xs) (h : ∀ b o, (xs ≠ [] → A = some ⟨b, o, none⟩) → T r n P c' ⟨D, E, L⟩ Q) : T r n P c' ⟨D, E, L⟩ Q := by
  cases xs with
  | nil => exact h 0 0 (fun k => absurd rfl k)
  | cons x xs => exact T_addr_n (j := 0) (u := x) hk rfl fun b o e => h b o (fun _ => e)
theorem rvector_spec {L : List HP} {b : Nat} {s : RS} (hn : s.n + s.b.length ≤ 140737488355328) : Fn Try.prog 111 #[.pointer (some ⟨b, 0, none⟩)] (rdr b s :: L) (fun v L' => ∃ xs A c s', v = .slice A xs.length c ∧ L' = sl (intR .i64) A c xs :: rdr b s' :: L ∧ RdR rVec (okL (rNum 2147483647) 7) bVec s xs s') := by
  refine Fn_enter Try.func111 rfl rfl rfl rfl ?_
  refine T_region ?_
  refine TL_box rfl rfl rfl ?_
  intro b1
  refine TL_y rfl rfl (Y_assign rfl) ?_
  refine TL_nil ?_
  refine T_region ?_
  refine TL_y rfl rfl (Y_load rfl rfl) ?_
  refine TL_y rfl rfl (Y_make_func rfl rfl) ?_
  refine TL_pullc b1 ?_
  refine TL_pullk b ?_
  refine TL_call rfl rfl (list_int_spec 7 (by decide) hn) ?_
  rintro _ _ ⟨v, A6, c6, s1, rfl, rfl, h⟩
  have hv := vecR h
  have hlen := h.iv.1
  refine TL_y rfl rfl (Y_assign rfl) ?_
  refine TL_nil ?_
  refine T_addr_c (sln (A := A6) (c := c6)) fun bq oq hA => ?_
  refine T_pullk b ?_
  refine T_rdr fun Ar cr => ?_
  refine T_region_draw _ [0, 0, 2, 6, 14, 30, 62, 126, 254, 510, 1022, 1022, 3070, 7166, 16382, 32766, 65534, 131070, 262142, 524287, 1048575, 2097151] [21] [(0, true), (1, true), (2, true), (3, true), (4, true), (5, true), (6, true), (7, true), (8, true), (9, true), (10, true), (11, true), (12, true), (13, true), (14, true), (15, true), (16, true), (17, true), (18, true), (19, true), (20, true), (21, false)] (by kernel_rfl) (by decide +kernel) (Gives.refl _) ?_
  refine TF_y rfl rfl (Y_load rfl rfl) ?_
  refine TF_y rfl rfl (Y_load rfl rfl) ?_
  refine TF_y rfl rfl (Y_nil_check rfl) ?_
  refine TF_y rfl rfl (Y_field_addr rfl) ?_
  refine TF_y rfl rfl (Y_load rfl rfl) ?_
  refine TF_y rfl rfl (Y_move rfl) ?_
  refine TF_split 12 rfl (fun h12 => ?_) (fun h12 => ?_)
  · refine TF_gskip rfl rfl rfl rfl rfl ?_
    refine TF_gskip rfl rfl rfl rfl rfl ?_
    refine TF_gskip rfl rfl rfl rfl rfl ?_
    refine TF_gskip rfl rfl rfl rfl rfl ?_
    refine TF_gskip_u rfl rfl rfl rfl ?_
    refine TF_gskip_u rfl rfl rfl rfl ?_
    refine TF_gskip_u rfl rfl rfl rfl ?_
    refine TF_gskip_u rfl rfl rfl rfl ?_
    refine TF_gskip_u rfl rfl rfl rfl ?_
    refine TF_gskip_u rfl rfl rfl rfl ?_
    refine TF_gskip_u rfl rfl rfl rfl ?_
    refine TF_gskip rfl rfl rfl rfl rfl ?_
    refine TF_y rfl rfl (Y_pick_t rfl rfl) ?_
    refine TF_name 25 (v' := .bool (s1.bad || lastZero v)) rfl (by rw [h12]; rfl) ?_
    refine TF_y rfl rfl (Y_nil_check rfl) ?_
    refine TF_y rfl rfl (Y_field_addr rfl) ?_
    refine TF_anchor rfl ?_
    refine TL_store rfl rfl rfl rfl rfl rfl ?_
    refine TF_end_tail rfl ?_
    refine TF_nil ?_
    refine T_region ?_
    refine TL_y rfl rfl (Y_move rfl) ?_
    refine TL_y rfl rfl (Y_assign rfl) ?_
    refine TL_nil ?_
    refine T_ret ?_
    refine RetQ.gives (rdr_close b ⟨s1.b, s1.n, s1.bad || lastZero v⟩ slk) ?_
    exact RetG_1 (.inl rfl) rfl (ResV.tmp rfl) GivesTo.g (⟨v, A6, c6, _, rfl, rfl, hv⟩)
  · refine TF_gy rfl rfl rfl rfl (Y_move rfl) ?_
    refine TF_gy rfl rfl rfl rfl (Y_len rfl) ?_
    refine TF_gy rfl rfl rfl rfl (Y_gt rfl rfl) ?_
    refine TF_gy rfl rfl rfl rfl (Y_move rfl) ?_
    refine TF_splitd 16 rfl (fun h16 => ?_) (fun h16 => ?_)
    · refine TF_gy rfl rfl rfl rfl (Y_move rfl) ?_
      refine TF_gy rfl rfl rfl rfl (Y_move rfl) ?_
      refine TF_gy rfl rfl rfl rfl (Y_len rfl) ?_
      refine TF_gy rfl rfl rfl rfl (Y_sub rfl rfl (by omega)) ?_
      refine TF_name 20 (v' := .int .i64 ((v.length - 1 : Nat) : Int)) rfl (by congr 1; omega) ?_
      have hne : v ≠ [] := fun e => by rw [e] at h16; simp at h16
      obtain ⟨q, hq⟩ : ∃ q, v[v.length - 1]? = some q := ⟨_, List.getElem?_eq_getElem (by omega)⟩
      refine TF_gy rfl rfl rfl rfl (Y_index_n (R := intR .i64) (xs := v) (b := bq) (o := oq) (by rw [← hA hne]; rfl) rfl rfl hq) ?_
      refine TF_gy rfl rfl rfl rfl (Y_load_n (R := intR .i64) (c := c6) (xs := v) (q := 0) rfl (by rw [← hA hne]; exact sln) hq rfl) ?_
      refine TF_gy rfl rfl rfl rfl (Y_eq rfl rfl) ?_
      refine TF_gy rfl rfl rfl rfl (Y_pick_t rfl rfl) ?_
      refine TF_y rfl rfl (Y_pick_f rfl rfl) ?_
      refine TF_name 25 (v' := .bool (s1.bad || lastZero v)) rfl (by rw [h12, show lastZero v = decide (q = 0) by unfold lastZero; rw [hq]; simp; omega]; rfl) ?_
      refine TF_y rfl rfl (Y_nil_check rfl) ?_
      refine TF_y rfl rfl (Y_field_addr rfl) ?_
      refine TF_anchor rfl ?_
      refine TL_store rfl rfl rfl rfl rfl rfl ?_
      refine TF_end_tail rfl ?_
      refine TF_nil ?_
      refine T_region ?_
      refine TL_y rfl rfl (Y_move rfl) ?_
      refine TL_y rfl rfl (Y_assign rfl) ?_
      refine TL_nil ?_
      refine T_ret ?_
      refine RetQ.gives (rdr_close b ⟨s1.b, s1.n, s1.bad || lastZero v⟩ slk) ?_
      exact RetG_1 (.inl rfl) rfl (ResV.tmp rfl) GivesTo.g (⟨v, A6, c6, _, rfl, rfl, hv⟩)
    · refine TF_gskip rfl rfl rfl rfl rfl ?_
      refine TF_gskip rfl rfl rfl rfl rfl ?_
      refine TF_gskip rfl rfl rfl rfl rfl ?_
      refine TF_gskip rfl rfl rfl rfl rfl ?_
      refine TF_gskip rfl rfl rfl rfl rfl ?_
      refine TF_gskip rfl rfl rfl rfl rfl ?_
      refine TF_gskip rfl rfl rfl rfl rfl ?_
      refine TF_gy rfl rfl rfl rfl (Y_pick_f rfl rfl) ?_
      refine TF_y rfl rfl (Y_pick_f rfl rfl) ?_
      refine TF_name 25 (v' := .bool (s1.bad || lastZero v)) rfl (by rw [h12, show lastZero v = false by unfold lastZero; rw [decide_eq_false]; omega]; rfl) ?_
      refine TF_y rfl rfl (Y_nil_check rfl) ?_
      refine TF_y rfl rfl (Y_field_addr rfl) ?_
      refine TF_anchor rfl ?_
      refine TL_store rfl rfl rfl rfl rfl rfl ?_
      refine TF_end_tail rfl ?_
      refine TF_nil ?_
      refine T_region ?_
      refine TL_y rfl rfl (Y_move rfl) ?_
      refine TL_y rfl rfl (Y_assign rfl) ?_
      refine TL_nil ?_
      refine T_ret ?_
      refine RetQ.gives (rdr_close b ⟨s1.b, s1.n, s1.bad || lastZero v⟩ slk) ?_
      exact RetG_1 (.inl rfl) rfl (ResV.tmp rfl) GivesTo.g (⟨v, A6, c6, _, rfl, rfl, hv⟩)
end Go.SL
