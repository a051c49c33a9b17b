/- Codec: reading texts. -/
import Derived.Test.YtiiejjdkhekhmaaCodE
set_option linter.unusedVariables false
set_option linter.unusedSimpArgs false
namespace Go.SL
open Go Go.Proofs

theorem strOf_strBytes (s : ByteArray) : strOfNums (strBytes s) = s := by
  cases s with
  | mk d =>
    simp only [strOfNums, strBytes, List.map_map]
    congr 1
    have : (List.map ((fun n : Int => UInt8.ofNat n.toNat) ∘ fun b : UInt8 => (b.toNat : Int)) d.toList) = d.toList := by
      conv => rhs; rw [← List.map_id d.toList]
      apply List.map_congr_left
      intro b _
      simp
    rw [this]
theorem strBytes_strOf {xs : List Int} (h : ∀ x ∈ xs, 0 ≤ x ∧ x ≤ 255) : strBytes (strOfNums xs) = xs := by
  simp only [strBytes, strOfNums_data, List.map_map]
  conv => rhs; rw [← List.map_id xs]
  apply List.map_congr_left
  intro x hx
  have := h x hx
  simp only [Function.comp_apply, id]
  rw [UInt8.toNat_ofNat_of_lt' (by show x.toNat < 256; omega)]
  omega
theorem strBytes_inj {s t : ByteArray} (h : strBytes s = strBytes t) : s = t := by rw [← strOf_strBytes s, h, strOf_strBytes]
theorem strOf_inj {xs ys : List Int} (hx : ∀ x ∈ xs, 0 ≤ x ∧ x ≤ 255) (hy : ∀ x ∈ ys, 0 ≤ x ∧ x ≤ 255) : strOfNums xs = strOfNums ys ↔ xs = ys := ⟨fun h => by rw [← strBytes_strOf hx, h, strBytes_strOf hy], fun h => by rw [h]⟩
theorem strBytes_all (s : ByteArray) : ∀ x ∈ strBytes s, 0 ≤ x ∧ x ≤ 255 := fun x hx => by
  obtain ⟨i, hi⟩ := List.getElem?_of_mem hx
  exact strBytes_in hi
theorem grp_all (x : Nat) : ∀ d ∈ grp x, 0 ≤ d ∧ d ≤ 255 := by
  obtain ⟨ds, c, h1, h2, h3, h4, _, _⟩ := grp_form x x (Nat.le_refl _)
  rw [h1]
  intro d hd
  rcases List.mem_append.1 hd with hd | hd
  · have := h2 d hd; omega
  · simp at hd; omega
theorem txt_all (s : ByteArray) : ∀ x ∈ txt s, 0 ≤ x ∧ x ≤ 255 := fun x hx => by
  rcases List.mem_append.1 hx with h | h
  · exact grp_all _ x h
  · exact strBytes_all s x h
theorem txt_length (s : ByteArray) : (txt s).length = (grp s.size).length + s.size := by simp [txt, strBytes_length]
theorem SlK.all_int {L : List HP} {k : IntKind} {A : Option Addr} {c : Nat} {xs : List Int} (h : SlK L (intR k) A c xs) : Knows L (fun _ => ∀ x ∈ xs, intIn k x) := h.mono fun M h x hx => by
  rcases h.2.2 with e | ⟨b, o, e, cs, t, fr, hb, hall⟩
  · subst e; cases hx
  · obtain ⟨i, hi⟩ := List.getElem?_of_mem hx
    obtain ⟨l, hl, _⟩ := hall i x hi
    exact hl.2
theorem u8_all {xs : List Int} (h : ∀ x ∈ xs, intIn .u8 x) : ∀ x ∈ xs, 0 ≤ x ∧ x ≤ 255 := fun x hx => u8In (h x hx)

theorem pre_grp {s : ByteArray} {bs : List Int} (h : txt s <+: bs) : grp s.size <+: bs := (List.prefix_append _ _).trans h
theorem rdT_none {bs : List Int} {most : Int} (hm : most ≤ 9223372036854775807) {x n : Nat} (h : RdU bs x n 10) : RdT bs most ⟨#[]⟩ 0 10 := by
  rcases h with ⟨h, _⟩ | ⟨_, _, _, h⟩
  · cases h
  · exact .inr ⟨rfl, rfl, rfl, fun s hs hp => h s.size (by omega) (pre_grp hp)⟩
theorem rdT_size {bs : List Int} {n k : Nat} (h : RdU bs n k 0) {s : ByteArray} (hs : s.size < 18446744073709551616) (hp : txt s <+: bs) : s.size = n ∧ k = (grp n).length ∧ k + n ≤ bs.length := by
  have h1 : RdU bs s.size (grp s.size).length 0 := .inl ⟨rfl, hs, (List.prefix_iff_eq_take.1 (pre_grp hp)).symm, rfl, (pre_grp hp).length_le⟩
  obtain ⟨e1, e2, _⟩ := rdU_unique h h1
  have := hp.length_le
  rw [txt_length] at this
  exact ⟨e1.symm, by rw [e2, ← e1], by rw [e2, e1]; exact this⟩
theorem rdT_bad {bs : List Int} {most : Int} (hm : most ≤ 9223372036854775807) {n k : Nat} (h : RdU bs n k 0) (hb : most < 0 ∨ most < (n : Int) ∨ bs.length < k + n) : RdT bs most ⟨#[]⟩ 0 10 :=
  .inr ⟨rfl, rfl, rfl, fun s hs hp => by
    obtain ⟨h1, h2, h3⟩ := rdT_size h (by omega) hp
    omega⟩
theorem rdT_done {bs : List Int} {most : Int} {n k : Nat} (h : RdU bs n k 0) (hall : ∀ x ∈ bs, 0 ≤ x ∧ x ≤ 255) (h1 : (n : Int) ≤ most) (h2 : k + n ≤ bs.length) : RdT bs most (strOfNums ((bs.take (k + n)).drop k)) (k + n) 0 := by
  rcases h with ⟨_, h3, h4, h5, h6⟩ | ⟨h, _⟩
  · have hs : (strOfNums ((bs.take (k + n)).drop k)).size = n := by rw [strOfNums_size]; simp; omega
    have ht : bs.take (k + n) = txt (strOfNums ((bs.take (k + n)).drop k)) := by
      unfold txt
      rw [hs, strBytes_strOf (fun x hx => hall x (List.mem_of_mem_take (List.mem_of_mem_drop hx))), ← h4]
      conv => lhs; rw [← List.take_append_drop k (bs.take (k + n))]
      rw [List.take_take, Nat.min_eq_left (by omega)]
    exact .inl ⟨rfl, by rw [hs]; exact h1, ht, by rw [← ht]; simp; omega, h2⟩
  · cases h
theorem rdT_unique {bs : List Int} {most : Int} (hm : most ≤ 9223372036854775807) {s s' : ByteArray} {n e n' e' : Nat} (h : RdT bs most s n e) (k : RdT bs most s' n' e') : s = s' ∧ n = n' ∧ e = e' := by
  have pre : ∀ {s n}, bs.take n = txt s → txt s <+: bs := fun h => h ▸ List.take_prefix _ _
  rcases h with ⟨h1, h2, h3, h4, h5⟩ | ⟨h1, h2, h3, h4⟩ <;> rcases k with ⟨k1, k2, k3, k4, k5⟩ | ⟨k1, k2, k3, k4⟩
  · have hu : RdU bs s.size (grp s.size).length 0 := .inl ⟨rfl, by omega, (List.prefix_iff_eq_take.1 (pre_grp (pre h3))).symm, rfl, (pre_grp (pre h3)).length_le⟩
    obtain ⟨e1, _, _⟩ := rdT_size hu (by omega) (pre k3)
    have en : n = n' := by rw [h4, k4, txt_length, txt_length, e1]
    have : txt s = txt s' := by rw [← h3, ← k3, en]
    have es : s = s' := by
      unfold txt at this
      rw [e1] at this
      exact strBytes_inj (List.append_cancel_left this)
    exact ⟨es, en, by rw [h1, k1]⟩
  · exact absurd (pre h3) (k4 _ h2)
  · exact absurd (pre k3) (h4 _ k2)
  · exact ⟨by rw [h2, k2], by rw [h3, k3], by rw [h1, k1]⟩
theorem rdU_e {bs : List Int} {x n e : Nat} (h : RdU bs x n e) : (e = 0 ∧ x < 18446744073709551616 ∧ n ≤ 10 ∧ n ≤ bs.length ∧ 0 < n) ∨ (e = 10 ∧ x = 0 ∧ n = 0) := by
  rcases h with ⟨h1, h2, h3, h4, h5⟩ | ⟨h1, h2, h3, h4⟩
  · have := grp_ten h2; have := grp_pos x; exact .inl ⟨h1, h2, by omega, h5, by omega⟩
  · exact .inr ⟨h1, h2, h3⟩

theorem readText_spec {L : List HP} {A : Option Addr} {c : Nat} {bs : List Int} (hk : SlK L (intR .u8) A c bs) (most : Int) (hm : intIn .i64 most) : Fn Try.prog 21 #[.slice A bs.length c, .int .i64 most] L (fun v L' => (∃ (s : ByteArray) (n e : Nat), v = .tuple #[.string s, .int .i64 (n : Int), .int .i64 (e : Int)] ∧ RdT bs most s n e) ∧ L' = L) := by
  have hm := i64In hm
  refine Fn_enter Try.func21 rfl rfl rfl rfl ?_
  refine hk.lens fun hl => ?_
  refine T_fact hk.all_int (fun _ h => h) fun hall => ?_
  simp only [maxEl] at hl
  refine T_region ?_
  refine TL_y rfl rfl (Y_assign rfl) ?_
  refine TL_y rfl rfl (Y_assign rfl) ?_
  refine TL_y rfl rfl (Y_assign rfl) ?_
  refine TL_nil ?_
  refine T_region ?_
  refine TL_y rfl rfl (Y_move rfl) ?_
  refine TL_call rfl rfl (readUint_spec hk) ?_
  rintro _ _ ⟨⟨n, k, e, rfl, hr⟩, rfl⟩
  have he := rdU_e hr
  refine TL_y rfl rfl (Y_move rfl) ?_
  refine TL_y rfl rfl (Y_extract rfl rfl) ?_
  refine TL_y rfl rfl (Y_extract rfl rfl) ?_
  refine TL_y rfl rfl (Y_extract rfl rfl) ?_
  refine TL_y rfl rfl (Y_assign rfl) ?_
  refine TL_y rfl rfl (Y_assign rfl) ?_
  refine TL_y rfl rfl (Y_assign rfl) ?_
  refine TL_nil ?_
  refine T_seq ?_
  refine T_region ?_
  refine TL_y rfl rfl (Y_move rfl) ?_
  refine TL_y rfl rfl (Y_ne rfl rfl) ?_
  refine TL_y rfl rfl (Y_move rfl) ?_
  refine TL_splitd 19 rfl (fun h19 => ?_) (fun h19 => ?_)
  · refine TL_gskip rfl rfl rfl rfl ?_
    refine TL_gskip rfl rfl rfl rfl ?_
    refine TL_y rfl rfl (Y_pick_t rfl rfl) ?_
    refine TL_y rfl rfl (Y_move rfl) ?_
    refine TL_gskip rfl rfl rfl rfl ?_
    refine TL_gskip rfl rfl rfl rfl ?_
    refine TL_gskip rfl rfl rfl rfl ?_
    refine TL_gskip rfl rfl rfl rfl ?_
    refine TL_y rfl rfl (Y_pick_t rfl rfl) ?_
    refine TL_y rfl rfl (Y_move rfl) ?_
    refine TL_gskip rfl rfl rfl rfl ?_
    refine TL_gskip rfl rfl rfl rfl ?_
    refine TL_gskip rfl rfl rfl rfl ?_
    refine TL_gskip rfl rfl rfl rfl ?_
    refine TL_gskip rfl rfl rfl rfl ?_
    refine TL_gskip rfl rfl rfl rfl ?_
    refine TL_gskip rfl rfl rfl rfl ?_
    refine TL_y rfl rfl (Y_pick_t rfl rfl) ?_
    refine TL_nil ?_
    refine T_cond_true rfl ?_
    refine T_region ?_
    refine TL_y rfl rfl (Y_assign rfl) ?_
    refine TL_y rfl rfl (Y_assign rfl) ?_
    refine TL_y rfl rfl (Y_assign rfl) ?_
    refine TL_nil ?_
    refine T_ret ?_
    refine thenS_ret ?_
    exact RetG_3 (.inl rfl) rfl (ResV.tmp rfl) (ResV.tmp rfl) (ResV.tmp rfl) GivesTo.g (⟨⟨⟨#[]⟩, 0, 10, rfl, by rcases he with ⟨rfl, _⟩ | ⟨rfl, _⟩; exact rdT_bad hm.2 hr (by omega); exact rdT_none hm.2 hr⟩, rfl⟩)
  · refine TL_grun rfl rfl ?_
    refine TL_y rfl rfl (Y_move rfl) ?_
    refine TL_grun rfl rfl ?_
    refine TL_y rfl rfl (Y_lt rfl rfl) ?_
    refine TL_y rfl rfl (Y_pick_f rfl rfl) ?_
    refine TL_y rfl rfl (Y_move rfl) ?_
    refine TL_splitd 23 rfl (fun h23 => ?_) (fun h23 => ?_)
    · refine TL_gskip rfl rfl rfl rfl ?_
      refine TL_gskip rfl rfl rfl rfl ?_
      refine TL_gskip rfl rfl rfl rfl ?_
      refine TL_gskip rfl rfl rfl rfl ?_
      refine TL_y rfl rfl (Y_pick_t rfl rfl) ?_
      refine TL_y rfl rfl (Y_move rfl) ?_
      refine TL_gskip rfl rfl rfl rfl ?_
      refine TL_gskip rfl rfl rfl rfl ?_
      refine TL_gskip rfl rfl rfl rfl ?_
      refine TL_gskip rfl rfl rfl rfl ?_
      refine TL_gskip rfl rfl rfl rfl ?_
      refine TL_gskip rfl rfl rfl rfl ?_
      refine TL_gskip rfl rfl rfl rfl ?_
      refine TL_y rfl rfl (Y_pick_t rfl rfl) ?_
      refine TL_nil ?_
      refine T_cond_true rfl ?_
      refine T_region ?_
      refine TL_y rfl rfl (Y_assign rfl) ?_
      refine TL_y rfl rfl (Y_assign rfl) ?_
      refine TL_y rfl rfl (Y_assign rfl) ?_
      refine TL_nil ?_
      refine T_ret ?_
      refine thenS_ret ?_
      exact RetG_3 (.inl rfl) rfl (ResV.tmp rfl) (ResV.tmp rfl) (ResV.tmp rfl) GivesTo.g (⟨⟨⟨#[]⟩, 0, 10, rfl, by rcases he with ⟨rfl, _⟩ | ⟨rfl, _⟩; exact rdT_bad hm.2 hr (by omega); exact rdT_none hm.2 hr⟩, rfl⟩)
    · refine TL_grun rfl rfl ?_
      refine TL_y rfl rfl (Y_move rfl) ?_
      refine TL_grun rfl rfl ?_
      refine TL_y rfl rfl (Y_move rfl) ?_
      refine TL_grun rfl rfl ?_
      refine TL_y rfl rfl (Y_conv rfl) ?_
      refine TL_name 26 (v' := .int .u64 most) rfl (by rw [show most = ((most.toNat : Nat) : Int) by omega, u64_small (by omega)]) ?_
      refine TL_grun rfl rfl ?_
      refine TL_y rfl rfl (Y_gt rfl rfl) ?_
      refine TL_y rfl rfl (Y_pick_f rfl rfl) ?_
      refine TL_y rfl rfl (Y_move rfl) ?_
      refine TL_splitd 29 rfl (fun h29 => ?_) (fun h29 => ?_)
      · refine TL_gskip rfl rfl rfl rfl ?_
        refine TL_gskip rfl rfl rfl rfl ?_
        refine TL_gskip rfl rfl rfl rfl ?_
        refine TL_gskip rfl rfl rfl rfl ?_
        refine TL_gskip rfl rfl rfl rfl ?_
        refine TL_gskip rfl rfl rfl rfl ?_
        refine TL_gskip rfl rfl rfl rfl ?_
        refine TL_y rfl rfl (Y_pick_t rfl rfl) ?_
        refine TL_nil ?_
        refine T_cond_true rfl ?_
        refine T_region ?_
        refine TL_y rfl rfl (Y_assign rfl) ?_
        refine TL_y rfl rfl (Y_assign rfl) ?_
        refine TL_y rfl rfl (Y_assign rfl) ?_
        refine TL_nil ?_
        refine T_ret ?_
        refine thenS_ret ?_
        exact RetG_3 (.inl rfl) rfl (ResV.tmp rfl) (ResV.tmp rfl) (ResV.tmp rfl) GivesTo.g (⟨⟨⟨#[]⟩, 0, 10, rfl, by rcases he with ⟨rfl, _⟩ | ⟨rfl, _⟩; exact rdT_bad hm.2 hr (by omega); exact rdT_none hm.2 hr⟩, rfl⟩)
      · refine TL_grun rfl rfl ?_
        refine TL_y rfl rfl (Y_move rfl) ?_
        refine TL_grun rfl rfl ?_
        refine TL_y rfl rfl (Y_move rfl) ?_
        refine TL_grun rfl rfl ?_
        refine TL_y rfl rfl (Y_len rfl) ?_
        refine TL_grun rfl rfl ?_
        refine TL_y rfl rfl (Y_move rfl) ?_
        refine TL_grun rfl rfl ?_
        refine TL_y rfl rfl (Y_sub rfl rfl (by omega)) ?_
        refine TL_name 34 (v' := .int .i64 ((bs.length - k : Nat) : Int)) rfl (by congr 1; omega) ?_
        refine TL_grun rfl rfl ?_
        refine TL_y rfl rfl (Y_conv rfl) ?_
        refine TL_name 35 (v' := .int .u64 ((bs.length - k : Nat) : Int)) rfl (by rw [u64_small (by omega)]) ?_
        refine TL_grun rfl rfl ?_
        refine TL_y rfl rfl (Y_gt rfl rfl) ?_
        refine TL_y rfl rfl (Y_pick_f rfl rfl) ?_
        refine TL_nil ?_
        refine T_if rfl (fun h37 => ?_) (fun h37 => ?_)
        · refine T_region ?_
          refine TL_y rfl rfl (Y_assign rfl) ?_
          refine TL_y rfl rfl (Y_assign rfl) ?_
          refine TL_y rfl rfl (Y_assign rfl) ?_
          refine TL_nil ?_
          refine T_ret ?_
          refine thenS_ret ?_
          exact RetG_3 (.inl rfl) rfl (ResV.tmp rfl) (ResV.tmp rfl) (ResV.tmp rfl) GivesTo.g (⟨⟨⟨#[]⟩, 0, 10, rfl, by rcases he with ⟨rfl, _⟩ | ⟨rfl, _⟩; exact rdT_bad hm.2 hr (by omega); exact rdT_none hm.2 hr⟩, rfl⟩)
        · refine T_skip ?_
          refine thenS_normal ?_
          refine T_region ?_
          have he0 : e = 0 := by omega
          subst he0
          refine TL_y rfl rfl (Y_move rfl) ?_
          refine TL_y rfl rfl (Y_move rfl) ?_
          refine TL_y rfl rfl (Y_conv rfl) ?_
          refine TL_name 40 (v' := .int .i64 (n : Int)) rfl (by rw [IntWalk.i64_in _ (by omega)]) ?_
          refine TL_y rfl rfl (Y_add rfl rfl (by omega)) ?_
          refine TL_name 41 (v' := .int .i64 ((k + n : Nat) : Int)) rfl (rfl) ?_
          refine TL_y rfl rfl (Y_assign rfl) ?_
          refine TL_nil ?_
          refine T_region ?_
          refine TL_y rfl rfl (Y_move rfl) ?_
          refine TL_y rfl rfl (Y_move rfl) ?_
          refine TL_y rfl rfl (Y_move rfl) ?_
          refine TL_y rfl rfl (Y_cut_lh rfl rfl rfl (by omega)) ?_
          refine TL_name 45 (v' := .slice (cutA A k c 1) ((bs.take (k + n)).drop k).length (c - k)) rfl (by simp; omega) ?_
          refine TL_y rfl rfl (Y_bytes_str rfl (hk.cut k (k + n) c (by omega) (by omega) (by omega))) ?_
          refine TL_y rfl rfl (Y_move rfl) ?_
          refine TL_y rfl rfl (Y_assign rfl) ?_
          refine TL_y rfl rfl (Y_assign rfl) ?_
          refine TL_y rfl rfl (Y_assign rfl) ?_
          refine TL_nil ?_
          refine T_ret ?_
          exact RetG_3 (.inl rfl) rfl (ResV.tmp rfl) (ResV.tmp rfl) (ResV.tmp rfl) GivesTo.g (⟨⟨strOfNums ((bs.take (k + n)).drop k), k + n, 0, rfl, rdT_done hr (u8_all hall) (by omega) (by omega)⟩, rfl⟩)
end Go.SL
